/- Part 4 of the proof: The checker's parts, once check is known for lighter types; The checker's one and check, once check is known for lighter types; so check; kinds.Count, resolve.nodes; the builder's level; The builder's end, loops, known; The builder's each, right, called; The builder's each of right; called; places; The builder's places; The builder's edge; The builder's node; Steps of a region that draws its order, one by one; What resolve.Build says of a schema; lattices in which nothing is wrong; resolve.Build; Reading a plan: Len, Root, Lattice, Node, Find; slices.Clone; of no plan as well; The reference of chapter 17: Great, Same; The program's comparing of schemas; The law's example: a type that leads to itself; The law of no plan: the call returns true; The document's relations: Leads; The document's lattices: Find, pairs, Leq, Loop; The document's lattices: what is wrong; The document's labels: over, Least, Of; The document's schemas: Find, word, all, Flat, End, Start; The document's schemas: Flat, End, Start; The document's schemas: named, unknown; The reference's Wrong returns what is wrong with a type; The document's schemas: what is wrong; The document's nodes: Same, of equal ones; the law's node; The document's nodes: node; The document's plan: Build; What is known of a type with which nothing is wrong; labels have levels; What is known of the nodes of a plan; A plan, as its readers know it; Values, plain; how many are in one, how deep they lie; Values that are the same; Which values fit which nodes: plain, as the program finds it and as the document says it; tree's leaf, kids, Fits; tree.Fits; the document's To, Fits; Values as they are written: plain; tree.write, Raw; Typed values out of values as they are written: plain; A lattice, as its readers know it; Leq; joins are the document's; Paths: data, Step compared with itself; ref09.Begins, Same on the same path; ref25.Step; Where steps lead in a plan, and how places are seen, plain; The first edge of a name; A region that draws its order, in which a new object may come at any time among calls: its run with the object made at each of these times serves every order; A region that draws its order, run by a schedule: at each point all that may come and has an effect is tried. No condition. -/
import Derived.Test.YtfdedoiiahbnnaaGreatNc2
import Derived.Test.YtfdedoiiahbnnaaGreatNc3
set_option linter.all false
set_option maxRecDepth 100000
namespace Go.Proofs.YtfdedoiiahbnnaaGreat
open Go Go.RowKit Dv Go.Proofs.Tryz
theorem rD {ai:Int} {all:List Wd} {i:Nat} {p:Ph} {t:Ty} {r:Pts} {depth m:Int} (hk:ai=7∨ai=8) (hl:aQ all i p.name=0) :
  wrongPts ai all i (.cons p t r) depth m=if (iu p t (decide (ai=8)) depth m).1.1≠0 then iu p t (decide (ai=8)) depth m else wrongPts ai all (i + 1) r depth (iu p t (decide (ai=8)) depth m).2:=by
 simp only [wrongPts];rw [ah (by simp [hl])];unfold iu;by_cases hb:p.bare=true
 ·grind [HN,sameTy,ct,cW,iV]
 ·grind
theorem Fl {p:Ph} {t:Ty} {un:Bool} {depth m:Int} (q8:0<=m) (iH:m<=512) (h:(iu p t un depth m).1.1=0):(iu p t un depth m).1=(0,0)/\0<=(iu p t un depth m).2/\(iu p t un depth m).2<=512:=by grind [pM,iu,eo]
abbrev wJ (h:Hd) (ps:Pts) (n e:Nat) (depth m:Int):St:=
 ⟨[aS 0 0,aA 2 depth,aS 4 1,aS 6 2,dJ 38 18 (ej ps),aA 39 ((ej ps).length),aA 40 e,(7,⟨[],.sl 1 (dj (aw ((pNames ps).take e))) (some 0)⟩)],
  [[.v (.int .i64 m)],gd (.mk h ps),[.v (.int .i64 0),.v (.int .i64 0)]],[⟨n,9,1,none⟩]⟩
theorem nY (k:Nat) (ih:Fi k) (h:Hd) (ps:Pts) (depth m:Int) (PW:h.ai=7∨h.ai=8) (hk:ps.wt<=k) (cE:(Ty.mk h ps).wt<=1099511627776) (BO:0<=depth) (vb:depth<=24) (q8:0<=m) (iH:m<=512) :
  Ev prog 241 [.loc 0 0,.agg (gd (.mk h ps)),.v (.int .i64 depth)] [[.v (.int .i64 m)]] [] (ze (jM h ps depth m)):=by
 simp only [Ty.wt,Hd.wt] at cE;have u2:=ps.iU;have ox:=ld ps;have RZ:=sq ps;have hS:=jM.eq_def h ps depth m;generalize jM h ps depth m=F at hS ⊢;refine eG 72 [.cell 6 26] func241 rfl ntmps241 rfl fun _ _ _ _=>?_;refine br ?_ ?_<;>intro c1
 ·have c1:h.ai=8/\ps.len=0:=by grind [aH,aU]
  rw [aj c1] at hS;refine cP cJ (aX 15 h.cF) ?_;exact ⟨_,_,ax,ax,aW (tk:=[]) (f:=(15,h.cF)) hS (fun _=>rfl)⟩
 have c1:¬ (h.ai=8/\ps.len=0):=by
  simp [aH,aU] at c1;omega
 rw [ah c1] at hS;refine br ?_ ?_<;>intro c2
 ·have av:64 < ps.len:=by simp [aU] at c2;omega
  obtain ⟨p,t,hx⟩:=Pts.gB av;refine iX (dc hx) ?_;refine cP cJ (aX 8 p.name.a) ?_;rw [aj av,iY hx] at hS;exact ⟨_,_,ax,ax,aW (tk:=[]) (f:=(8,p.name.a)) hS (fun _=>rfl)⟩
 have c2:¬ 64 < ps.len:=by simp [aU] at c2;omega
 rw [ah c2] at hS
 refine b9 (fun j st=>∃ (e:Nat) (m':Int),st=wJ h ps e e depth m' /\ e<=ps.len/\0<=m' /\ m' <= 512/\(aw ((pNames ps).take e)).Nodup /\
   F=wrongPts h.ai (pNames ps) e (ps.drop e) depth m' /\ j=ps.len - e) ps.len (wJ h ps 0 0 depth m) (jG ⟨0,9,1,none⟩ rfl ⟨_,rfl⟩ rfl wA rfl rfl tU) ⟨0,m,rfl,by omega,q8,iH,by simp [aw],hS,by omega⟩ ?_
 rintro j st ⟨e,m',rfl,he,Fm,Fo,hnd,bL,rfl⟩;refine br ?_ ?_<;>intro hL
 ·have av:e < ps.len:=by simpa [aU] using hL
  obtain ⟨p,t,hx⟩:=Pts.gB av;have Jv:=Pts.gZ (mG hx);have HW:=iY hx;have hpw:p.name.s.size + 64<=p.wt:=by simp only [Ph.wt,Wd.wt];omega
  rw [Pts.drop_cons hx] at bL;have EE:(aw ((pNames ps).take (e + 1)))[(aw ((pNames ps).take (e + 1))).length - 1]? = some p.name.s:=by grind [aw,pNames]
  have Kj:=nT (aw ((pNames ps).take (e + 1))) p.name.s p.name.a EE (by simp [aw];omega) (by omega);have lA:=il HW;rw [sF p.name.a HW hnd,<- lA] at Kj;have wK:=zf k ih p t (decide (h.ai=8)) depth m' (by omega) (by omega) (by omega) BO vb Fm Fo;obtain ⟨u,us⟩:=t;refine iX (dc hx) ?_;refine ⟨by simp [bz,aw];omega,⟨by simp [bz,aw,maxLen];omega,by simp [bz,aw];omega⟩,?_⟩;refine cP Jk Kj ?_;by_cases hl:aQ (pNames ps) e p.name≠0
  ·rw [aj hl];refine br ?_ ?_<;>intro hf
   ·simp only [wrongPts] at bL;rw [aj hl] at bL;exact ⟨_,_,ax,ax,aW (tk:=[]) (f:=(aQ (pNames ps) e p.name,p.name.a)) bL (fun _=>rfl)⟩
   ·exact absurd (sU hf) hl
  have hl:aQ (pNames ps) e p.name=0:=sU hl;have R0:=je HW hnd hl;rw [ah (by simp [hl])];rw [rD PW hl] at bL;have fM:=Fl (p:=p) (t:=.mk u us) (un:=decide (h.ai=8)) (depth:=depth) Fm Fo;generalize iu p (.mk u us) (decide (h.ai=8)) depth m'=r at wK bL fM;obtain ⟨⟨fe,fa⟩,many⟩:=r;simp only at bL fM;refine iT NG rfl rfl ax ax wK jf (fun r mD hr=>?_);obtain ⟨rfl,z,hz,vC⟩:=hr;simp only [List.cons.injEq,and_true] at hz;subst hz;refine br ?_ ?_<;>intro hd
  ·have hd:fe≠0:=sU hd;rw [aj hd] at bL;exact ⟨_,_,ax,ax,aW (tk:=[]) (f:=(fe,fa)) bL (fun h0=>absurd h0 hd)⟩
  ·have hd:fe=0:=sU hd;subst hd;obtain ⟨_,h2,h3⟩:=fM rfl;rw [ah (by simp)] at bL;have Uc:z=many:=vC rfl;subst Uc;exact rE ⟨_,by omega,e + 1,z,rfl,by omega,h2,h3,R0,bL,rfl⟩ (cL (q5 (bV av (by omega)) lA))
 ·have bO:e=ps.len:=by simp [aU] at hL;omega
  rw [bO,Pts.dQ] at bL;simp only [wrongPts] at bL;exact ⟨_,_,ax,ax,aW (tk:=[]) (f:=(0,0)) bL (fun _=>rfl)⟩
theorem sN (k:Nat) (ih:Fi k) (h:Hd) (ps:Pts) (depth m:Int) (hk:ps.wt<=k) (cE:(Ty.mk h ps).wt<=1099511627776) (BO:0<=depth) (vb:depth<=24) (q8:0<=m) (iH:m<=512) :
  Ev prog 240 [.loc 0 0,.agg (gd (.mk h ps)),.v (.int .i64 depth)] [[.v (.int .i64 m)]] [] (ze (wrongOne h ps depth m)):=by
 simp only [Ty.wt,Hd.wt] at cE
 cases ps with
 | nil=>
  have hS:wrongOne h .nil depth m=((19,h.cF),m):=by simp only [wrongOne]
  generalize wrongOne h .nil depth m=F at hS ⊢;refine eG 44 [.cell 6 26] func240 rfl ntmps240 rfl fun _ _ _ _=>?_;refine cP cJ (aX 19 h.cF) ?_;exact ⟨_,_,ax,ax,aW (tk:=[]) (f:=(19,h.cF)) hS (fun _=>rfl)⟩
 | cons p t r=>
  cases r with
  | cons p2 t2 r2=>
   have hS:wrongOne h (.cons p t (.cons p2 t2 r2)) depth m=((19,h.cF),m):=by simp only [wrongOne]
   generalize wrongOne h (.cons p t (.cons p2 t2 r2)) depth m=F at hS ⊢;refine eG 44 [.cell 6 26] func240 rfl ntmps240 rfl fun _ _ _ _=>?_;refine cP cJ (aX 19 h.cF) ?_;exact ⟨_,_,ax,ax,aW (tk:=[]) (f:=(19,h.cF)) hS (fun _=>rfl)⟩
  | nil=>
   simp only [Pts.wt] at cE hk;have hS:wrongOne h (.cons p t .nil) depth m=if p.name.s≠al∨cW p eF=false then ((19,h.cF),m) else if h.most < 0∨1024 < h.most then ((20,h.cF),m) else wrong t (depth + 1) m:=by simp only [wrongOne]
   generalize wrongOne h (.cons p t .nil) depth m=F at hS ⊢;have DR:=wm p t (by omega);rw [empty_eq] at DR;have Dd:=ih t (depth + 1) m (by omega) (by omega) (by omega) (by omega) q8 iH;obtain ⟨u,us⟩:=t;refine eG 44 [.cell 6 26] func240 rfl ntmps240 rfl fun _ _ _ _=>?_;refine ⟨_,⟨by omega,rfl⟩,?_⟩;refine cP NF DR ?_;refine br ?_ ?_<;>intro q
   ·have q:p.name.s≠al∨cW p eF=false:=by
     have:=q;simp [pickB] at this;exact this
    rw [aj q] at hS;refine cP cJ (aX 19 h.cF) ?_;exact ⟨_,_,ax,ax,aW (tk:=[]) (f:=(19,h.cF)) hS (fun _=>rfl)⟩
   have q:¬ (p.name.s≠al∨cW p eF=false):=by grind [pickB]
   rw [ah q] at hS;refine br ?_ ?_<;>intro x
   ·have x:h.most < 0∨1024 < h.most:=by simpa [aF] using x
    rw [aj x] at hS;refine cP cJ (aX 20 h.cF) ?_;exact ⟨_,_,ax,ax,aW (tk:=[]) (f:=(20,h.cF)) hS (fun _=>rfl)⟩
   have x:¬ (h.most < 0∨1024 < h.most):=by simp [aF] at x;omega
   rw [ah x] at hS;refine ⟨_,⟨by omega,rfl⟩,?_⟩;refine iT D6 rfl rfl ax (by repeat' (first | exact rfl | exact trivial | exact Or.inr (Or.inl ⟨_,rfl⟩) | exact Or.inr ⟨_,rfl⟩ | exact Or.inl ⟨rfl,rfl⟩ | exact Or.inl rfl | refine Or.inr ⟨_,_,rfl,Nat.zero_le _,rfl,?_⟩ | refine ⟨_,_,rfl,?_,?_⟩ | refine ⟨_,rfl,?_⟩ | exact congrArg (fun z=>DV.v (.int .i64 z)) (wrap64 (by omega) (by omega)) | refine Or.inr (Or.inr (Or.inr ⟨_,_,rfl,?_⟩)) | exact Or.inl rfl | refine Or.inr ?_)) Dd jf (fun r mD hr=>?_);obtain ⟨rfl,z,hz,vC⟩:=hr;simp only [List.cons.injEq,and_true] at hz;subst hz;exact ⟨_,_,ax,ax,aW (tk:=[]) (f:=(wrong (.mk u us) (depth + 1) m).1) hS vC⟩
theorem wL (k:Nat) (ih:Fi k) (h:Hd) (ps:Pts) (depth m:Int) (hk:ps.wt<=k) (cE:(Ty.mk h ps).wt<=1099511627776) (BO:0<=depth) (vb:depth<=25) (q8:0<=m) (iH:m<=512) :
  Ev prog 156 [.loc 0 0,.agg (gd (.mk h ps)),.v (.int .i64 depth)] [[.v (.int .i64 m)]] [] (ze (wrong (.mk h ps) depth m)):=by
 have JK:=cE;simp only [Ty.wt,Hd.wt] at JK;have vc:IntKind.i64.wrap (m + 1)=m + 1:=wrap64 (by omega) (by omega);have hS:=wrong.eq_def (.mk h ps) depth m;simp only at hS;generalize wrong (.mk h ps) depth m=F at hS ⊢;have ed:=BX h ps;rw [AG] at ed;refine eG 103 [.cell 6 26] func156 rfl ntmps156 rfl fun _ _ _ _=>?_;refine br ?_ ?_<;>intro c
 ·have c:24 < depth:=of_decide_eq_true c;rw [aj c] at hS;refine cP cJ (aX 6 h.cF) ?_;exact ⟨_,[[.v (.int .i64 (m + 1))]],ax,(r9 vc),aW (tk:=[]) (f:=(6,h.cF)) hS (fun _=>rfl)⟩
 have c:¬ 24 < depth:=of_decide_eq_false c;rw [ah c] at hS;refine br ?_ ?_<;>intro c
 ·have c:512 < IntKind.i64.wrap (m + 1):=of_decide_eq_true c;rw [vc] at c;rw [aj c] at hS;refine cP cJ (aX 8 h.cF) ?_;exact ⟨_,[[.v (.int .i64 (m + 1))]],ax,(r9 vc),aW (tk:=[]) (f:=(8,h.cF)) hS (fun _=>rfl)⟩
 have c:¬ 512 < IntKind.i64.wrap (m + 1):=of_decide_eq_false c;rw [vc] at c;rw [ah c] at hS;refine br ?_ ?_<;>intro c
 ·have c:h.ai < 1∨9 < h.ai:=by simpa [aF] using c
  rw [aj c] at hS;refine cP cJ (aX 14 h.cF) ?_;exact ⟨_,[[.v (.int .i64 (m + 1))]],ax,(r9 vc),aW (tk:=[]) (f:=(14,h.cF)) hS (fun _=>rfl)⟩
 have ck:¬ (h.ai < 1∨9 < h.ai):=by simp [aF] at c;omega
 rw [ah ck] at hS;refine cP Nu ed ?_;refine br ?_ ?_<;>intro c
 ·have c:yF (.mk h ps)=false:=by simpa [yF] using c
  rw [aj c] at hS;refine cP cJ (aX 19 h.cF) ?_;exact ⟨_,[[.v (.int .i64 (m + 1))]],ax,(r9 vc),aW (tk:=[]) (f:=(19,h.cF)) hS (fun _=>rfl)⟩
 have c:¬ yF (.mk h ps)=false:=by simpa [yF] using c
 rw [ah c] at hS;refine br ?_ ?_<;>intro k2
 ·have k2:h.ai=2:=of_decide_eq_true k2;refine br ?_ ?_<;>intro x
  ·have x:h.hi < h.lo:=of_decide_eq_true x;rw [aj (.inl ⟨k2,x⟩)] at hS;refine cP cJ (aX 20 h.cF) ?_;exact ⟨_,[[.v (.int .i64 (m + 1))]],ax,(r9 vc),aW (tk:=[]) (f:=(20,h.cF)) hS (fun _=>rfl)⟩
  have x:¬ h.hi < h.lo:=of_decide_eq_false x;rw [ah (by omega),ah (by omega),ah (by omega),ah (by omega),ah (by omega)] at hS;exact ⟨_,[[.v (.int .i64 (m + 1))]],ax,(r9 vc),aW (tk:=[]) (f:=(0,0)) hS (fun _=>rfl)⟩
 have k2:¬ h.ai=2:=of_decide_eq_false k2;refine br ?_ ?_<;>intro k3
 ·have k3:h.ai=3:=of_decide_eq_true k3;refine br ?_ ?_<;>intro x
  ·have x:h.most < 0∨4096 < h.most:=by simpa [aF] using x
   rw [aj (.inr ⟨k3,x⟩)] at hS;refine cP cJ (aX 20 h.cF) ?_;exact ⟨_,[[.v (.int .i64 (m + 1))]],ax,(r9 vc),aW (tk:=[]) (f:=(20,h.cF)) hS (fun _=>rfl)⟩
  have x:¬ (h.most < 0∨4096 < h.most):=by simp [aF] at x;omega
  rw [ah (by omega),ah (by omega),ah (by omega),ah (by omega),ah (by omega)] at hS;exact ⟨_,[[.v (.int .i64 (m + 1))]],ax,(r9 vc),aW (tk:=[]) (f:=(0,0)) hS (fun _=>rfl)⟩
 have k3:¬ h.ai=3:=of_decide_eq_false k3;rw [ah (by omega)] at hS;refine br ?_ ?_<;>intro k4
 ·have k4:h.ai=4:=of_decide_eq_true k4;rw [ah (by omega),aj k4,<- E8] at hS;refine cP Nv (yI h ps (by omega)) ?_;exact ⟨_,[[.v (.int .i64 (m + 1))]],ax,(r9 vc),aW (tk:=[]) (f:=jP h) hS (fun _=>rfl)⟩
 have k4:¬ h.ai=4:=of_decide_eq_false k4;refine br ?_ ?_<;>intro k5
 ·have R3:h.ai=5∨h.ai=6:=.inl (of_decide_eq_true k5);rw [ah (by omega),ah (by omega),aj R3] at hS;refine br (fun _=>?_) (fun hc=>by rw [k5] at hc;cases hc);refine iT Jg rfl rfl (cs':=[.v (.int .i64 (m + 1))]) (r9 vc) ax (sN k ih h ps depth (m + 1) hk cE BO (by omega) (by omega) (by omega)) jf (fun r mD hr=>?_);obtain ⟨rfl,z,hz,vC⟩:=hr;simp only [List.cons.injEq,and_true] at hz;subst hz;exact ⟨_,_,ax,ax,aW (tk:=[]) (f:=(wrongOne h ps depth (m + 1)).1) hS vC⟩
 have k5:¬ h.ai=5:=of_decide_eq_false k5;refine br ?_ ?_<;>intro k6
 ·have R3:h.ai=5∨h.ai=6:=.inr (of_decide_eq_true k6);rw [ah (by omega),ah (by omega),aj R3] at hS;refine iT Jg rfl rfl (cs':=[.v (.int .i64 (m + 1))]) (r9 vc) ax (sN k ih h ps depth (m + 1) hk cE BO (by omega) (by omega) (by omega)) jf (fun r mD hr=>?_);obtain ⟨rfl,z,hz,vC⟩:=hr;simp only [List.cons.injEq,and_true] at hz;subst hz;exact ⟨_,_,ax,ax,aW (tk:=[]) (f:=(wrongOne h ps depth (m + 1)).1) hS vC⟩
 have k6:¬ h.ai=6:=of_decide_eq_false k6;have hP:jM h ps depth (m + 1)=jM h ps depth (m + 1):=rfl
 conv at hP=>lhs;unfold jM
 refine br ?_ ?_<;>intro k7
 ·have Oz:h.ai=7∨h.ai=8:=.inl (of_decide_eq_true k7);rw [ah (by omega),ah (by omega),ah (by omega),aj Oz,hP] at hS;refine br (fun _=>?_) (fun hc=>by rw [k7] at hc;cases hc);refine iT Jh rfl rfl (cs':=[.v (.int .i64 (m + 1))]) (r9 vc) ax (nY k ih h ps depth (m + 1) Oz hk cE BO (by omega) (by omega) (by omega)) jf (fun r mD hr=>?_);obtain ⟨rfl,z,hz,vC⟩:=hr;simp only [List.cons.injEq,and_true] at hz;subst hz;exact ⟨_,_,ax,ax,aW (tk:=[]) (f:=(jM h ps depth (m + 1)).1) hS vC⟩
 have k7:¬ h.ai=7:=of_decide_eq_false k7;refine br ?_ ?_<;>intro k8
 ·have Oz:h.ai=7∨h.ai=8:=.inr (of_decide_eq_true k8);rw [ah (by omega),ah (by omega),ah (by omega),aj Oz,hP] at hS;refine iT Jh rfl rfl (cs':=[.v (.int .i64 (m + 1))]) (r9 vc) ax (nY k ih h ps depth (m + 1) Oz hk cE BO (by omega) (by omega) (by omega)) jf (fun r mD hr=>?_);obtain ⟨rfl,z,hz,vC⟩:=hr;simp only [List.cons.injEq,and_true] at hz;subst hz;exact ⟨_,_,ax,ax,aW (tk:=[]) (f:=(jM h ps depth (m + 1)).1) hS vC⟩
 have k8:¬ h.ai=8:=of_decide_eq_false k8;refine br ?_ ?_<;>intro k9
 ·have k9:h.ai=9:=of_decide_eq_true k9;refine cP BL (e9 h.name.s (by simp only [Wd.wt] at JK;omega)) ?_;refine br ?_ ?_<;>intro q
  ·have q:bG h.name.s=false:=sU q;rw [aj ⟨k9,q⟩] at hS;refine cP cJ (aX 9 h.name.a) ?_;exact ⟨_,[[.v (.int .i64 (m + 1))]],ax,(r9 vc),aW (tk:=[]) (f:=(9,h.name.a)) hS (fun _=>rfl)⟩
  ·have q:bG h.name.s=true:=sU q;rw [ah (by simp [q]),ah (by omega),ah (by omega),ah (by omega)] at hS;exact ⟨_,[[.v (.int .i64 (m + 1))]],ax,(r9 vc),aW (tk:=[]) (f:=(0,0)) hS (fun _=>rfl)⟩
 have k9:¬ h.ai=9:=of_decide_eq_false k9;rw [ah (by omega),ah (by omega),ah (by omega),ah (by omega)] at hS;exact ⟨_,[[.v (.int .i64 (m + 1))]],ax,(r9 vc),aW (tk:=[]) (f:=(0,0)) hS (fun _=>rfl)⟩
theorem wM:∀ k,Fi k
 | 0=>fun t depth m hk=>by have:=t.gA;omega
 | k + 1=>fun t depth m hk cE BO vb q8 iH=>by
  obtain ⟨h,ps⟩:=t;have fF:=hk;simp only [Ty.wt,Hd.wt] at fF;exact wL k (wM k) h ps depth m (by omega) cE BO vb q8 iH
theorem wN (t:Ty) (cE:t.wt<=1099511627776):bh prog 84 [.agg (gd t)] (wrong t 1 0).1.d:=
 BZ t (wM t.wt t 1 0 (bd _) cE (by omega) (by omega) (by omega) (by omega))
abbrev Fp (t:Ty) (ps:Pts) (e n:Nat):St:=
 ⟨[aS 1 0,aA 3 n,dJ 7 18 (ej ps),aA 8 ((ej ps).length),aA 9 e],[gd t],[]⟩
theorem qj:∀ (k:Nat) (t:Ty),t.wt<=k->t.wt<=1099511627776 ->
  bh prog 132 [.agg (gd t)] (.v (.int .i64 t.cnt))
 | 0,t,hn,_=>by have:=t.gA;omega
 | k + 1,.mk h ps,hn,cE=>by
  simp only [Ty.wt,Hd.wt] at hn cE;have u2:=ps.iU;have hc:=ps.ek;refine eG 23 [.tmp 2] func132 rfl ntmps132 rfl fun _ _ _ _=>?_
  refine b9 (fun j st=>∃ (e n:Nat),st=Fp (.mk h ps) ps e n/\e<=ps.len/\n + (ps.drop e).cnt=1 + ps.cnt/\j=ps.len - e) ps.len
   (Fp (.mk h ps) ps 0 1) (cL wB) ⟨0,1,rfl,by omega,rfl,by omega⟩ ?_
  rintro j st ⟨e,n,rfl,he,aY,rfl⟩;refine br ?_ ?_<;>intro hL
  ·have av:e < ps.len:=by simpa [aU] using hL
   obtain ⟨p,t,hx⟩:=Pts.gB av;have Jv:=Pts.gZ (mG hx);rw [Pts.drop_cons hx] at aY;simp only [Pts.cnt] at aY;have x7:=t.ek;obtain ⟨u,us⟩:=t;refine iX (dc hx) ?_;refine br ?_ ?_<;>intro hB
   ·have hB:p.bare=false:=sU hB;rw [hB] at aY;have aY:n + ((Ty.mk u us).cnt + (ps.drop (e + 1)).cnt)=1 + ps.cnt:=aY;refine cP I7 (qj k (.mk u us) (by omega) (by omega)) ?_;have HE:IntKind.i64.wrap ((n:Int) + (Ty.mk u us).cnt)=((n + (Ty.mk u us).cnt:Nat):Int):=by rw [wrap64 (by omega) (by omega)];omega
    exact ⟨Fp (.mk h ps) ps (e + 1) (n + (Ty.mk u us).cnt),(cL (q5 HE (bV av (by omega)))),ps.len - (e + 1),by omega,e + 1,_,rfl,by omega,by omega,rfl⟩
   ·have hB:p.bare=true:=sU hB;rw [hB] at aY;have aY:n + (0 + (ps.drop (e + 1)).cnt)=1 + ps.cnt:=aY;exact rE ⟨_,by omega,e + 1,n,rfl,by omega,by omega,rfl⟩ (cL (iG (bV av (by omega))))
  ·have bO:e=ps.len:=by simp [aU] at hL;omega
   rw [bO,Pts.dQ] at aY;simp only [Pts.cnt] at aY;have e2:(n:Int)=((Ty.mk h ps).cnt:Int):=by simp only [Ty.cnt];omega
   refine (BD ?_:);exact e2
mutual
def Ty.nn:Ty->Nat
 | .mk h ps=>if h.ai=9 then 0 else 1 + ps.nn
def Pts.nn:Pts->Nat
 | .nil=>0
 | .cons p t r=>(if p.bare then 0 else t.nn) + r.nn
end
mutual
theorem Ty.fJ:∀ t:Ty,t.nn<=t.cnt
 | .mk h ps=>by
  have:=Pts.fJ ps;simp only [Ty.nn,Ty.cnt];split<;>omega
theorem Pts.fJ:∀ ps:Pts,ps.nn<=ps.cnt
 | .nil=>bd _
 | .cons p t r=>by
  have:=Ty.fJ t;have:=Pts.fJ r;simp only [Pts.nn,Pts.cnt];split<;>omega
end
abbrev Ln (t:Ty) (ps:Pts) (e n:Nat):St:=
 ⟨[aS 1 0,aA 3 n,dJ 10 18 (ej ps),aA 11 ((ej ps).length),aA 12 e],[gd t],[]⟩
theorem qk:∀ (k:Nat) (t:Ty),t.wt<=k->t.wt<=1099511627776 ->
  bh prog 135 [.agg (gd t)] (.v (.int .i64 t.nn))
 | 0,t,hn,_=>by have:=t.gA;omega
 | k + 1,.mk h ps,hn,cE=>by
  simp only [Ty.wt,Hd.wt] at hn cE;have u2:=ps.iU;have hc:=ps.ek;have jD:=ps.fJ;refine eG 26 [.tmp 2] func135 rfl ntmps135 rfl fun _ _ _ _=>?_;refine br ?_ ?_<;>intro h9
  ·have h9:h.ai=9:=sU h9;have:(Ty.mk h ps).nn=0:=by simp [Ty.nn,h9]
   rw [this];exact (rfl:_=_)
  have h9:¬ h.ai=9:=sU h9
  refine b9 (fun j st=>∃ (e n:Nat),st=Ln (.mk h ps) ps e n/\e<=ps.len/\n + (ps.drop e).nn=1 + ps.nn/\j=ps.len - e) ps.len
   (Ln (.mk h ps) ps 0 1) (cL wB) ⟨0,1,rfl,by omega,rfl,by omega⟩ ?_
  rintro j st ⟨e,n,rfl,he,aY,rfl⟩;refine br ?_ ?_<;>intro hL
  ·have av:e < ps.len:=by simpa [aU] using hL
   obtain ⟨p,t,hx⟩:=Pts.gB av;have Jv:=Pts.gZ (mG hx);rw [Pts.drop_cons hx] at aY;simp only [Pts.nn] at aY;have x7:=t.ek;have hct2:=t.fJ;obtain ⟨u,us⟩:=t;refine iX (dc hx) ?_;refine br ?_ ?_<;>intro hB
   ·have hB:p.bare=false:=sU hB;rw [hB] at aY;have aY:n + ((Ty.mk u us).nn + (ps.drop (e + 1)).nn)=1 + ps.nn:=aY;refine cP I8 (qk k (.mk u us) (by omega) (by omega)) ?_;have HE:IntKind.i64.wrap ((n:Int) + (Ty.mk u us).nn)=((n + (Ty.mk u us).nn:Nat):Int):=by rw [wrap64 (by omega) (by omega)];omega
    exact ⟨Ln (.mk h ps) ps (e + 1) (n + (Ty.mk u us).nn),(cL (q5 HE (bV av (by omega)))),ps.len - (e + 1),by omega,e + 1,_,rfl,by omega,by omega,rfl⟩
   ·have hB:p.bare=true:=sU hB;rw [hB] at aY;have aY:n + (0 + (ps.drop (e + 1)).nn)=1 + ps.nn:=aY;exact rE ⟨_,by omega,e + 1,n,rfl,by omega,by omega,rfl⟩ (cL (iG (bV av (by omega))))
  ·have bO:e=ps.len:=by simp [aU] at hL;omega
   rw [bO,Pts.dQ] at aY;simp only [Pts.nn] at aY;have e2:(n:Int)=((Ty.mk h ps).nn:Int):=by simp only [Ty.nn,ah h9];omega
   refine (BD ?_:);exact e2
structure Lx where
 af:List ByteArray
 ay:List Nat
 rows:List Nat
 js:List Int
 f:Nat->Nat->Bool
def Lx.pd (X:Lx):DV:=.pt (fk X.af (bW X.af X.ay) X.rows X.js) 0
def Lx.lev (X:Lx) (l:List Wd):Int:=zd X.f X.af l
def Lx.bad (X:Lx) (l:List Wd):Ft:=labW X.af l
structure Lx.OK (X:Lx):Prop where
 hT:eT X.af X.ay
 gM:X.ay.length<=1099511627776
 hL:jU X.f X.af.length
 hn:X.af.length<=32
 hj:∀ x y,x < X.af.length->y < X.af.length->JM X.f X.af.length X.js x y
theorem Lx.mn {X:Lx} (h:X.OK) (l:List Wd) (hs:wdsWt l<=1099511627776):bh prog 133 [X.pd,.sl 2 (bf l) none] (.cj [.v (.int .i64 (X.lev l)),(X.bad l).d]):=
 Fh X.af X.ay X.rows X.js h.hT h.gM h.hL h.hn h.hj l hs
def bC (s:Sch) (lat out:DV) (m:Int):List DV:=.sl 2 (bf s.ae) none :: .sl 4 (oy s.order) none :: .sl 11 (dNms s.types) none :: (gd s.root ++ [lat,out,.v (.int .i64 m)])
theorem ql {X:Lx} (h:X.OK) (s:Sch) (pc:List DV) (m:Int) (l:List Wd) (hs:wdsWt l<=1099511627776) :
  bh prog 218 [.pt (bC s X.pd (.pt pc 0) m) 0,.sl 2 (bf l) none] (.v (.int .i64 (X.lev l))):=by
 obtain ⟨ae,order,types,⟨rh,rp⟩⟩:=s;refine eG 17 [.tmp 4] func218 rfl ntmps218 rfl fun _ _ _ _=>?_;refine cP vW (Lx.mn h l hs) ?_;exact (rfl:_=_)
def vd (s:Sch):List Wd:=s.types.map fun x=>x.1
def tL (s:Sch):List ByteArray:=aw (vd s)
theorem HX (s:Sch):(vd s).length=s.types.length:=by simp [vd]
theorem qm (s:Sch):(tL s).length=s.types.length:=by simp [tL,aw,vd]
def pC (s:Sch) (ay:List Nat) (a b c e:DV):List DV:=[a,b,c,.pt (bW (tL s) ay) 0,e]
def Cn (s:Sch) (t:Ty):Bool:=decide (t.h.ai=9->cY (tL s) t.h.name.s≠none)
def endI (s:Sch):Nat->Nat->Option Nat
 | 0,_=>none
 | k + 1,i=>
  match s.types[i]? with
  | none=>none
  | some x=>if x.2.h.ai=9 then endI s k ((cY (tL s) x.2.h.name.s).getD 0) else some i
theorem uy {s:Sch}:∀ {k i j:Nat},endI s k i=some j->j < s.types.length/\∀ x,s.types[j]? = some x->x.2.h.ai≠9
 | 0,i,j,h=>by cases h
 | k + 1,i,j,h=>by
  rw [endI] at h
  cases hx:s.types[i]? with
  | none=>rw [hx] at h;cases h
  | some x=>
   rw [hx] at h;simp only at h;split at h
   ·exact uy h
   all_goals grind
abbrev JL (B:DV) (n i e:Nat):St:=
 ⟨[(0,⟨[],B⟩),aA 1 i,aA 12 n,aA 13 e],[],[]⟩
theorem wO (s:Sch) (lat:DV) (ay:List Nat) (a b c e0:DV) (m:Int) (hT:eT (tL s) ay) (gM:ay.length<=1099511627776) (hl:s.types.length<=64) (hr:∀ x∈s.types,Cn s x.2=true) (i:Nat) (hi:i < s.types.length) :
  bh prog 134 [.pt (bC s lat (.pt (pC s ay a b c e0) 0) m) 0,.v (.int .i64 i)] (.v (.int .i64 (oz (endI s (s.types.length + 1) i)))):=by
 have BW:=qm s;obtain ⟨ae,order,types,⟨rh,rp⟩⟩:=s;simp only at hl hr hi BW;have hN:=fu types;have R4:IntKind.i64.wrap ((((dNms types).length:Nat):Int) + 1)=((types.length + 1:Nat):Int):=by rw [hN,wrap64 (by omega) (by omega)];all_goals rfl
 refine eG 43 [.tmp 4] func134 rfl ntmps134 rfl fun _ _ _ _=>?_
 refine b9 (fun j st=>∃ e q:Nat,st=JL (.pt (bC ⟨ae,order,types,.mk rh rp⟩ lat (.pt (pC ⟨ae,order,types,.mk rh rp⟩ ay a b c e0) 0) m) 0) (types.length + 1) q e/\e<=types.length + 1/\q < types.length/\endI ⟨ae,order,types,.mk rh rp⟩ (types.length + 1) i=endI ⟨ae,order,types,.mk rh rp⟩ (types.length + 1 - e) q/\j=types.length + 1 - e) (types.length + 1)
  (JL (.pt (bC ⟨ae,order,types,.mk rh rp⟩ lat (.pt (pC ⟨ae,order,types,.mk rh rp⟩ ay a b c e0) 0) m) 0) (types.length + 1) i 0) (cL (iG R4)) ⟨0,i,rfl,by omega,hi,rfl,by omega⟩ ?_
 rintro j st ⟨e,q,rfl,he,hq,bL,rfl⟩;refine br ?_ ?_<;>intro hL
 ·have av:e < types.length + 1:=by have:=hL;simp at this;omega
  obtain ⟨x,hx⟩:∃ x,types[q]? = some x:=⟨_,gE hq⟩;have hrx:=hr x (mG hx);obtain ⟨xw,⟨xh,xp⟩⟩:=x
  have bo:endI ⟨ae,order,types,.mk rh rp⟩ (types.length + 1 - e) q=if xh.ai=9 then endI ⟨ae,order,types,.mk rh rp⟩ (types.length + 1 - (e + 1)) ((cY (tL ⟨ae,order,types,.mk rh rp⟩) xh.name.s).getD 0) else some q:=by
   rw [show types.length + 1 - e=(types.length + 1 - (e + 1)) + 1 by omega,endI];simp only [hx];rfl
  rw [bo] at bL;refine iX (dNms_get hx) ?_;refine br ?_ ?_<;>intro h9
  ·have h9:¬ xh.ai=9:=sU h9;rw [ah h9] at bL;rw [bL];exact (rfl:_=_)
  have h9:xh.ai=9:=sU h9;rw [aj h9] at bL
  have aY:cY (tL ⟨ae,order,types,.mk rh rp⟩) xh.name.s≠none:=by
   have:=of_decide_eq_true hrx;exact this h9
  obtain ⟨k,hk⟩:=Option.ne_none_iff_exists'.1 aY;have mV:=(dN hk).1;rw [hk] at bL;have hf:=ff (tL ⟨ae,order,types,.mk rh rp⟩) ay xh.name.s hT gM;rw [hk] at hf;refine dI ?_;refine cD jK hf ?_;exact rE ⟨_,by omega,e + 1,k,rfl,by omega,by omega,bL,rfl⟩ (cL (iG (bV av (by omega))))
 ·have bO:e=types.length + 1:=by have:=hL;simp at this;omega
  subst bO;rw [Nat.sub_self] at bL;rw [bL];exact (rfl:_=_)
def loopF (s:Sch):Ft:=
 match bq (fun i=>(endI s (s.types.length + 1) i).isNone) s.types.length with
 | none=>(0,0)
 | some i=>(11,Mf (vd s) i)
abbrev uz (B:DV) (s:Sch) (e:Nat):St:=
 ⟨[(0,⟨[],B⟩),aS 2 0,dJ 9 11 (dNms s.types),aA 10 ((dNms s.types).length),aA 11 e],[[.v (.int .i64 0),.v (.int .i64 0)]],[]⟩
theorem zh (s:Sch) (lat:DV) (ay:List Nat) (a b c e0:DV) (m:Int) (hT:eT (tL s) ay) (gM:ay.length<=1099511627776) (hl:s.types.length<=64) (hr:∀ x∈s.types,Cn s x.2=true) :
  bh prog 66 [.pt (bC s lat (.pt (pC s ay a b c e0) 0) m) 0] (loopF s).d:=by
 have wP:=wO s lat ay a b c e0 m hT gM hl hr;have hN:=fu s.types;have hF:=loopF.eq_1 s;obtain ⟨ae,order,types,⟨rh,rp⟩⟩:=s;simp only at hl hr wP hN;refine eG 26 [.cell 2 26] func66 rfl ntmps66 rfl fun _ _ _ _=>?_
 refine b9 (fun j st=>∃ e:Nat,st=uz (.pt (bC ⟨ae,order,types,.mk rh rp⟩ lat (.pt (pC ⟨ae,order,types,.mk rh rp⟩ ay a b c e0) 0) m) 0) ⟨ae,order,types,.mk rh rp⟩ e/\e<=types.length/\(∀ i,i < e->(endI ⟨ae,order,types,.mk rh rp⟩ (types.length + 1) i).isNone=false)/\j=types.length - e) types.length
  (uz (.pt (bC ⟨ae,order,types,.mk rh rp⟩ lat (.pt (pC ⟨ae,order,types,.mk rh rp⟩ ay a b c e0) 0) m) 0) ⟨ae,order,types,.mk rh rp⟩ 0) (cL wB) ⟨0,rfl,by omega,fun _ h=>by omega,by omega⟩ ?_
 rintro j st ⟨e,rfl,he,gQ,rfl⟩;refine br ?_ ?_<;>intro hL
 ·have av:e < types.length:=by have:=hL;simp [hN] at this;exact this
  obtain ⟨x,hx⟩:=gX av;have R5:(vd ⟨ae,order,types,.mk rh rp⟩)[e]? = some x.1:=by simp [vd,hx]
  have h1:=wP e av;obtain ⟨xw,⟨xh,xp⟩⟩:=x;refine iX (dNms_get hx) ?_;refine cP en134 h1 ?_
  cases hE:endI ⟨ae,order,types,.mk rh rp⟩ (types.length + 1) e with
  | none=>
   have u5:=cQ (p:=fun i=>(endI ⟨ae,order,types,.mk rh rp⟩ (types.length + 1) i).isNone) av (by simp only [hE];rfl) gQ;simp only [u5] at hF;rw [oM R5] at hF;refine ⟨_,?_,rfl⟩;rw [hF];exact ax
  | some k=>
   refine ⟨uz (.pt (bC ⟨ae,order,types,.mk rh rp⟩ lat (.pt (pC ⟨ae,order,types,.mk rh rp⟩ ay a b c e0) 0) m) 0) ⟨ae,order,types,.mk rh rp⟩ (e + 1),(cL (iG (bV av (by omega)))),types.length - (e + 1),by omega,e + 1,rfl,by omega,fun i hi=>?_,rfl⟩;rcases q7 hi with hi | rfl
   ·exact gQ i hi
   ·rw [hE];all_goals rfl
 ·have bO:e=types.length:=sW hN hL;subst bO;simp only [dC gQ] at hF;refine ⟨_,?_,rfl⟩;rw [hF];exact ax
mutual
def knT (X:Lx) (L:List ByteArray):Ty->Ft
 | .mk h ps=>if h.ai=9/\cY L h.name.s=none then (15,h.name.a) else knP X L ps
def knP (X:Lx) (L:List ByteArray):Pts->Ft
 | .nil=>(0,0)
 | .cons p t r=>if (X.bad p.label).1≠0 then X.bad p.label else if (X.bad p.cl).1≠0 then X.bad p.cl else if p.bare then knP X L r else if (knT X L t).1≠0 then knT X L t else knP X L r
end
abbrev OA (B:DV) (t:Ty) (ps:Pts) (e:Nat):St:=
 ⟨[(0,⟨[],B⟩),aS 3 0,aS 4 1,dJ 38 18 (ej ps),aA 39 ((ej ps).length),aA 40 e],[gd t,[.v (.int .i64 0),.v (.int .i64 0)]],[]⟩
abbrev sO (B:DV) (t:Ty) (ps:Pts) (p:Ph) (u:Ty) (e q:Nat):St:=
 ⟨[(0,⟨[],B⟩),aS 3 0,aS 4 1,dJ 38 18 (ej ps),aA 39 ((ej ps).length),aA 40 e,aS 8 2,dJ 49 1 [[.sl 2 (bf p.label) none],[.sl 2 (bf p.cl) none]],aA 50 (2:Nat),aA 51 q],[gd t,[.v (.int .i64 0),.v (.int .i64 0)],Dh p (gd u)],[]⟩
theorem qp {X:Lx} (hX:X.OK) (s:Sch) (ay:List Nat) (a b c e0:DV) (m:Int) (hT:eT (tL s) ay) (gM:ay.length<=1099511627776):∀ (k:Nat) (t:Ty),t.wt<=k->t.wt<=1099511627776 ->
  bh prog 65 [.pt (bC s X.pd (.pt (pC s ay a b c e0) 0) m) 0,.agg (gd t)] (knT X (tL s) t).d
 | 0,t,hn,_=>by have:=t.gA;omega
 | k + 1,.mk h ps,hn,cE=>by
  have ih:=qp hX s ay a b c e0 m hT gM k;simp only [Ty.wt,Hd.wt] at hn cE;have u2:=ps.iU;obtain ⟨ae,order,types,⟨rh,rp⟩⟩:=s;have hf:=ff (tL ⟨ae,order,types,.mk rh rp⟩) ay h.name.s hT gM;have hS:knT X (tL ⟨ae,order,types,.mk rh rp⟩) (.mk h ps)=if h.ai=9/\cY (tL ⟨ae,order,types,.mk rh rp⟩) h.name.s=none then (15,h.name.a) else knP X (tL ⟨ae,order,types,.mk rh rp⟩) ps:=by rw [knT]
  refine eG 81 [.cell 4 26] func65 rfl ntmps65 rfl fun _ _ _ _=>?_;generalize knT X (tL ⟨ae,order,types,.mk rh rp⟩) (.mk h ps)=F at hS ⊢;have Ud:knP X (tL ⟨ae,order,types,.mk rh rp⟩) ps=knP X (tL ⟨ae,order,types,.mk rh rp⟩) (ps.drop 0):=by rw [Pts.drop]
  refine br ?_ ?_<;>intro h9
  ·have h9:h.ai=9:=sU h9;refine dI ?_
   cases hx:cY (tL ⟨ae,order,types,.mk rh rp⟩) h.name.s with
   | none=>
    rw [aj ⟨h9,hx⟩] at hS;rw [hx] at hf;refine cD jK hf ?_;refine ⟨_,?_,rfl⟩;rw [hS];exact ax
   | some i=>
    rw [ah (by rw [hx];simp),Ud] at hS;rw [hx] at hf;refine cD jK hf ?_;refine lI (fun j st=>∃ e:Nat,st=OA (.pt (bC ⟨ae,order,types,.mk rh rp⟩ X.pd (.pt (pC ⟨ae,order,types,.mk rh rp⟩ ay a b c e0) 0) m) 0) (.mk h ps) ps e/\e<=ps.len/\F=knP X (tL ⟨ae,order,types,.mk rh rp⟩) (ps.drop e)/\j=ps.len - e) ⟨0,rfl,by omega,hS,rfl⟩ (cL wB) ?_;rintro j st ⟨e,rfl,he,bL,rfl⟩;refine br ?_ ?_<;>intro hL
    ·have av:e < ps.len:=by simpa [aU] using hL
     obtain ⟨p,t,hx⟩:=Pts.gB av;have Jv:=Pts.gZ (mG hx);rw [Pts.drop_cons hx] at bL;simp only [knP] at bL;have hw1:wdsWt p.label + wdsWt p.cl<=p.wt:=by simp only [Ph.wt];omega
     obtain ⟨u,us⟩:=t;refine iX (dc hx) ?_;refine lI (fun j st=>∃ q:Nat,st=sO (.pt (bC ⟨ae,order,types,.mk rh rp⟩ X.pd (.pt (pC ⟨ae,order,types,.mk rh rp⟩ ay a b c e0) 0) m) 0) (.mk h ps) ps p (.mk u us) e q/\q<=2/\(1<=q->(X.bad p.label).1=0)/\(2<=q->(X.bad p.cl).1=0)/\j=2 - q) ⟨0,rfl,by omega,fun h=>by omega,fun h=>by omega,rfl⟩ (cL wB) ?_;rintro j st ⟨q,rfl,hq,Lo,gh,rfl⟩;refine br ?_ ?_<;>intro JF
     ·have x4:q=0∨q=1:=by have:=JF;simp at this;omega
      rcases x4 with rfl | rfl
      ·refine ⟨_,⟨by omega,rfl⟩,?_⟩;refine cP vW (Lx.mn hX p.label (by omega)) ?_;refine br ?_ ?_<;>intro hb
       ·have hb:(X.bad p.label).1≠0:=sU hb;rw [aj hb] at bL;refine ⟨_,?_,rfl⟩;rw [bL];exact ax
       ·have hb:(X.bad p.label).1=0:=sU hb;exact ⟨sO (.pt (bC ⟨ae,order,types,.mk rh rp⟩ X.pd (.pt (pC ⟨ae,order,types,.mk rh rp⟩ ay a b c e0) 0) m) 0) (.mk h ps) ps p (.mk u us) e 1,(cL (iG (bV (e:=0) (n:=2) (by omega) (by omega)))),1,by omega,1,rfl,by omega,fun _=>hb,fun h=>by omega,rfl⟩
      ·have fI:=Lo (by omega);refine ⟨_,⟨by omega,rfl⟩,?_⟩;refine cP vW (Lx.mn hX p.cl (by omega)) ?_;refine br ?_ ?_<;>intro hb
       ·have hb:(X.bad p.cl).1≠0:=sU hb;rw [ah (by rw [fI];simp),aj hb] at bL;refine ⟨_,?_,rfl⟩;rw [bL];exact ax
       ·have hb:(X.bad p.cl).1=0:=sU hb;exact ⟨sO (.pt (bC ⟨ae,order,types,.mk rh rp⟩ X.pd (.pt (pC ⟨ae,order,types,.mk rh rp⟩ ay a b c e0) 0) m) 0) (.mk h ps) ps p (.mk u us) e 2,(cL (iG (bV (e:=1) (n:=2) (by omega) (by omega)))),0,by omega,2,rfl,by omega,fun _=>fI,fun _=>hb,rfl⟩
     ·have x4:q=2:=by have:=JF;simp at this;omega
      subst x4;have fI:=Lo (by omega);have mR:=gh (by omega);rw [ah (by rw [fI];simp),ah (by rw [mR];simp)] at bL;refine br ?_ ?_<;>intro hB
      ·have hB:p.bare=true:=hB;rw [aj hB] at bL;exact rE ⟨_,by omega,e + 1,rfl,by omega,bL,rfl⟩ (cL (iG (bV av (by omega))))
      ·have hB:p.bare=false:=hB;rw [ah (by rw [hB];decide)] at bL;refine cP KS (ih (.mk u us) (by omega) (by omega)) ?_;refine br ?_ ?_<;>intro hb
       ·have hb:(knT X (tL ⟨ae,order,types,.mk rh rp⟩) (.mk u us)).1≠0:=sU hb;rw [aj hb] at bL;refine ⟨_,?_,rfl⟩;rw [bL];exact ax
       ·have hb:(knT X (tL ⟨ae,order,types,.mk rh rp⟩) (.mk u us)).1=0:=sU hb;rw [ah (by rw [hb];simp)] at bL;exact rE ⟨_,by omega,e + 1,rfl,by omega,bL,rfl⟩ (cL (iG (bV av (by omega))))
    ·have bO:e=ps.len:=by simp [aU] at hL;omega
     rw [bO,Pts.dQ] at bL;simp only [knP] at bL;refine ⟨_,?_,rfl⟩;rw [bL];exact ax
  ·have h9:¬ h.ai=9:=sU h9;rw [ah (fun hc=>h9 hc.1),Ud] at hS;refine lI (fun j st=>∃ e:Nat,st=OA (.pt (bC ⟨ae,order,types,.mk rh rp⟩ X.pd (.pt (pC ⟨ae,order,types,.mk rh rp⟩ ay a b c e0) 0) m) 0) (.mk h ps) ps e/\e<=ps.len/\F=knP X (tL ⟨ae,order,types,.mk rh rp⟩) (ps.drop e)/\j=ps.len - e) ⟨0,rfl,by omega,hS,rfl⟩ (cL wB) ?_;rintro j st ⟨e,rfl,he,bL,rfl⟩;refine br ?_ ?_<;>intro hL
   ·have av:e < ps.len:=by simpa [aU] using hL
    obtain ⟨p,t,hx⟩:=Pts.gB av;have Jv:=Pts.gZ (mG hx);rw [Pts.drop_cons hx] at bL;simp only [knP] at bL;have hw1:wdsWt p.label + wdsWt p.cl<=p.wt:=by simp only [Ph.wt];omega
    obtain ⟨u,us⟩:=t;refine iX (dc hx) ?_;refine lI (fun j st=>∃ q:Nat,st=sO (.pt (bC ⟨ae,order,types,.mk rh rp⟩ X.pd (.pt (pC ⟨ae,order,types,.mk rh rp⟩ ay a b c e0) 0) m) 0) (.mk h ps) ps p (.mk u us) e q/\q<=2/\(1<=q->(X.bad p.label).1=0)/\(2<=q->(X.bad p.cl).1=0)/\j=2 - q) ⟨0,rfl,by omega,fun h=>by omega,fun h=>by omega,rfl⟩ (cL wB) ?_;rintro j st ⟨q,rfl,hq,Lo,gh,rfl⟩;refine br ?_ ?_<;>intro JF
    ·have x4:q=0∨q=1:=by have:=JF;simp at this;omega
     rcases x4 with rfl | rfl
     ·refine ⟨_,⟨by omega,rfl⟩,?_⟩;refine cP vW (Lx.mn hX p.label (by omega)) ?_;refine br ?_ ?_<;>intro hb
      ·have hb:(X.bad p.label).1≠0:=sU hb;rw [aj hb] at bL;refine ⟨_,?_,rfl⟩;rw [bL];exact ax
      ·have hb:(X.bad p.label).1=0:=sU hb;exact ⟨sO (.pt (bC ⟨ae,order,types,.mk rh rp⟩ X.pd (.pt (pC ⟨ae,order,types,.mk rh rp⟩ ay a b c e0) 0) m) 0) (.mk h ps) ps p (.mk u us) e 1,(cL (iG (bV (e:=0) (n:=2) (by omega) (by omega)))),1,by omega,1,rfl,by omega,fun _=>hb,fun h=>by omega,rfl⟩
     ·have fI:=Lo (by omega);refine ⟨_,⟨by omega,rfl⟩,?_⟩;refine cP vW (Lx.mn hX p.cl (by omega)) ?_;refine br ?_ ?_<;>intro hb
      ·have hb:(X.bad p.cl).1≠0:=sU hb;rw [ah (by rw [fI];simp),aj hb] at bL;refine ⟨_,?_,rfl⟩;rw [bL];exact ax
      ·have hb:(X.bad p.cl).1=0:=sU hb;exact ⟨sO (.pt (bC ⟨ae,order,types,.mk rh rp⟩ X.pd (.pt (pC ⟨ae,order,types,.mk rh rp⟩ ay a b c e0) 0) m) 0) (.mk h ps) ps p (.mk u us) e 2,(cL (iG (bV (e:=1) (n:=2) (by omega) (by omega)))),0,by omega,2,rfl,by omega,fun _=>fI,fun _=>hb,rfl⟩
    ·have x4:q=2:=by have:=JF;simp at this;omega
     subst x4;have fI:=Lo (by omega);have mR:=gh (by omega);rw [ah (by rw [fI];simp),ah (by rw [mR];simp)] at bL;refine br ?_ ?_<;>intro hB
     ·have hB:p.bare=true:=hB;rw [aj hB] at bL;exact rE ⟨_,by omega,e + 1,rfl,by omega,bL,rfl⟩ (cL (iG (bV av (by omega))))
     ·have hB:p.bare=false:=hB;rw [ah (by rw [hB];decide)] at bL;refine cP KS (ih (.mk u us) (by omega) (by omega)) ?_;refine br ?_ ?_<;>intro hb
      ·have hb:(knT X (tL ⟨ae,order,types,.mk rh rp⟩) (.mk u us)).1≠0:=sU hb;rw [aj hb] at bL;refine ⟨_,?_,rfl⟩;rw [bL];exact ax
      ·have hb:(knT X (tL ⟨ae,order,types,.mk rh rp⟩) (.mk u us)).1=0:=sU hb;rw [ah (by rw [hb];simp)] at bL;exact rE ⟨_,by omega,e + 1,rfl,by omega,bL,rfl⟩ (cL (iG (bV av (by omega))))
   ·have bO:e=ps.len:=by simp [aU] at hL;omega
    rw [bO,Pts.dQ] at bL;simp only [knP] at bL;refine ⟨_,?_,rfl⟩;rw [bL];exact ax
def eaL (F:Ty->Ft) (z:Ft):List (Wd × Ty)->Ft
 | []=>z
 | x :: r=>if (F x.2).1≠0 then F x.2 else eaL F z r
theorem Fq {F:Ty->Ft} {z:Ft} {l:List (Wd × Ty)} {e:Nat} {x:Wd × Ty} (h:l[e]? = some x):eaL F z (l.drop e)=if (F x.2).1≠0 then F x.2 else eaL F z (l.drop (e + 1)):=by
 rw [drop_cons h,eaL]
abbrev Fs (B:DV) (fn:DV) (types:List (Wd × Ty)) (e:Nat):St:=
 ⟨[(0,⟨[],B⟩),(1,⟨[],fn⟩),aS 4 0,dJ 12 11 (dNms types),aA 13 ((dNms types).length),aA 14 e],[[.v (.int .i64 0),.v (.int .i64 0)]],[]⟩
theorem Co (s:Sch) (lat:DV) (pc:List DV) (m:Int) (hl:s.types.length<=1099511627776) (g:Nat) (hg:Enters prog g) (F:Ty->Ft)
  (hF:∀ t,(t=s.root∨∃ x∈s.types,t=x.2)->bh prog g [.pt (bC s lat (.pt pc 0) m) 0,.agg (gd t)] (F t).d) :
  bh prog 63 [.pt (bC s lat (.pt pc 0) m) 0,.fn g [.pt (bC s lat (.pt pc 0) m) 0] []] (eaL F (F s.root) s.types).d:=by
 have hN:=fu s.types;obtain ⟨ae,order,types,⟨rh,rp⟩⟩:=s;simp only at hl hF hN;have nZ:=hF (.mk rh rp) (.inl rfl);have Lp:∀ x∈types,_:=fun x hx=>hF x.2 (.inr ⟨x,hx,rfl⟩);clear hF;refine eG 34 [.cell 4 26] func63 rfl ntmps63 rfl fun _ _ _ _=>?_;generalize hG:eaL F (F (.mk rh rp)) types=G;have R6:G=eaL F (F (.mk rh rp)) (types.drop 0):=by rw [List.drop_zero,hG]
 refine b9 (fun j st=>∃ e:Nat,st=Fs (.pt (bC ⟨ae,order,types,.mk rh rp⟩ lat (.pt pc 0) m) 0) (.fn g [.pt (bC ⟨ae,order,types,.mk rh rp⟩ lat (.pt pc 0) m) 0] []) types e/\e<=types.length/\G=eaL F (F (.mk rh rp)) (types.drop e)/\j=types.length - e) types.length
  (Fs (.pt (bC ⟨ae,order,types,.mk rh rp⟩ lat (.pt pc 0) m) 0) (.fn g [.pt (bC ⟨ae,order,types,.mk rh rp⟩ lat (.pt pc 0) m) 0] []) types 0) (cL wB) ⟨0,rfl,by omega,R6,by omega⟩ ?_
 rintro j st ⟨e,rfl,he,bL,rfl⟩;refine br ?_ ?_<;>intro hL
 ·have av:e < types.length:=by have:=hL;simp [hN] at this;exact this
  obtain ⟨x,hx⟩:=gX av;have hp:=Lp x (mG hx);rw [Fq hx] at bL;obtain ⟨xw,⟨xh,xp⟩⟩:=x;refine iX (dNms_get hx) ?_;refine cP hg hp ?_;refine br ?_ ?_<;>intro hf
  ·have hf:(F (.mk xh xp)).1≠0:=sU hf;rw [aj hf] at bL;refine ⟨_,?_,rfl⟩;rw [bL];exact ax
  ·have hf:(F (.mk xh xp)).1=0:=sU hf;rw [ah (by rw [hf];simp)] at bL;exact rE ⟨_,by omega,e + 1,rfl,by omega,bL,rfl⟩ (cL (iG (bV av (by omega))))
 ·have bO:e=types.length:=sW hN hL;subst bO;rw [List.drop_length,eaL] at bL;refine cP hg nZ ?_;refine ⟨_,?_,rfl⟩;rw [bL];exact ax
def bH (t:Ty) (m:Int):Ft × Int:=if (wrong t 1 0).1.1≠0 then ((wrong t 1 0).1,m) else if 512 < m + t.cnt then ((8,t.h.cF),m + t.cnt) else ((0,0),m + t.cnt)
def Fu (s:Sch) (lat:DV) (pc:List DV) (x:Ft × Int) (r:DV) (os:List (List DV)) (_:List TkE):Prop:=r=x.1.d/\os=[bC s lat (.loc 1 0) x.2,pc]
theorem wQ (s:Sch) (lc pc:List DV) (m:Int) (q8:0<=m) (iH:m<=1099511627776) (t:Ty) (cE:t.wt<=1099511627776) (R7:∀ bx N n0 m0,CcL bx N n0 m0 pc pc) :
  Ev prog 64 [.loc 0 0,.agg (gd t)] [bC s (.pt lc 0) (.loc 1 0) m,pc] [] (Fu s (.pt lc 0) pc (bH t m)):=by
 have hk:=wN t cE;have hc:=qj t.wt t (bd _) cE;have BF:=t.ek;have hF:=bH.eq_1 t m;obtain ⟨ae,order,types,⟨rh,rp⟩⟩:=s;obtain ⟨h,ps⟩:=t;generalize bH (.mk h ps) m=R at hF ⊢;refine eG 30 [.cell 4 26] func64 rfl ntmps64 rfl fun _ _ _ _=>?_;refine cP Rh hk ?_;refine br ?_ ?_<;>intro hf
 ·have hf:(wrong (.mk h ps) 1 0).1.1≠0:=sU hf;rw [aj hf] at hF;subst hF;exact ⟨Ft.d _,[bC ⟨ae,order,types,.mk rh rp⟩ (.pt lc 0) (.loc 1 0) m,pc],ax,(by repeat' (first | exact rfl | exact trivial | exact Or.inr (Or.inl ⟨_,rfl⟩) | exact Or.inr ⟨_,rfl⟩ | exact Or.inl ⟨rfl,rfl⟩ | exact Or.inl rfl | refine Or.inr ⟨_,_,rfl,Nat.zero_le _,rfl,?_⟩ | refine ⟨_,_,rfl,?_,?_⟩ | refine ⟨_,rfl,?_⟩ | exact R7 _ _ _ _ | exact ⟨nL rfl,rfl⟩ | exact congrArg (fun z=>DV.v (.int .i64 z)) hw | refine Or.inr (Or.inr (Or.inr ⟨_,_,rfl,?_⟩)) | exact Or.inl rfl | refine Or.inr ?_)),rfl,rfl⟩
 have hf:(wrong (.mk h ps) 1 0).1.1=0:=sU hf;rw [ah (by rw [hf];simp)] at hF;have hw:IntKind.i64.wrap (m + ((Ty.mk h ps).cnt:Int))=m + ((Ty.mk h ps).cnt:Int):=wrap64 (by omega) (by omega);refine dS ?_;refine cD I7 hc ?_;refine br ?_ ?_<;>intro hg
 ·have hg:512 < m + ((Ty.mk h ps).cnt:Int):=sV hw hg;rw [aj hg] at hF;subst hF;exact ⟨Ft.d _,[bC ⟨ae,order,types,.mk rh rp⟩ (.pt lc 0) (.loc 1 0) (m + (Ty.mk h ps).cnt),pc],ax,(Tx R7 hw),rfl,rfl⟩
 ·have hg:¬ 512 < m + ((Ty.mk h ps).cnt:Int):=sV hw hg;rw [ah hg] at hF;subst hF;exact ⟨Ft.d _,[bC ⟨ae,order,types,.mk rh rp⟩ (.pt lc 0) (.loc 1 0) (m + (Ty.mk h ps).cnt),pc],ax,(Tx R7 hw),rfl,rfl⟩
def eaR (z:Ty):List (Wd × Ty)->Int->Ft × Int
 | [],m=>bH z m
 | x :: r,m=>if (bH x.2 m).1.1≠0 then bH x.2 m else eaR z r (bH x.2 m).2
theorem Fv {z:Ty} {l:List (Wd × Ty)} {e:Nat} {m:Int} {x:Wd × Ty} (h:l[e]? = some x):eaR z (l.drop e) m=if (bH x.2 m).1.1≠0 then bH x.2 m else eaR z (l.drop (e + 1)) (bH x.2 m).2:=by
 rw [drop_cons h,eaR]
theorem kA {t:Ty} {m:Int} (h:(bH t m).1.1=0):(bH t m).2=m + t.cnt/\(bH t m).2<=512/\(wrong t 1 0).1.1=0/\(bH t m).1=(0,0):=by grind [bH]
abbrev zi (s:Sch) (ay:List Nat) (lc:List DV):List DV:=pC s ay (.pt lc 0) (.v (.slice none 0 0)) (.v (.int .i64 0)) (.v (.slice none 0 0))
abbrev uA (s:Sch) (lc pc:List DV) (m:Int) (types:List (Wd × Ty)) (e:Nat):St:=
 ⟨[aS 0 0,(1,⟨[],.fn 64 [.loc 0 0] []⟩),aS 4 2,dJ 12 11 (dNms types),aA 13 ((dNms types).length),aA 14 e],
  [bC s (.pt lc 0) (.loc 1 0) m,pc,[.v (.int .i64 0),.v (.int .i64 0)]],[]⟩
theorem zj (s:Sch) (lc:List DV) (ay:List Nat) (m:Int) (q8:0<=m) (iH:m<=512) (hl:s.types.length<=1099511627776) (cE:∀ t,(t=s.root∨∃ x∈s.types,t=x.2)->t.wt<=1099511627776) :
  Ev prog 63 [.loc 0 0,.fn 64 [.loc 0 0] []] [bC s (.pt lc 0) (.loc 1 0) m,zi s ay lc] [] (Fu s (.pt lc 0) (zi s ay lc) (eaR s.root s.types m)):=by
 have hN:=fu s.types;have hR:∀ (m':Int),0<=m' -> m' <= 512->∀ t,(t=s.root∨∃ x∈s.types,t=x.2)->_:=fun m' h0 h1 t ht=>wQ s lc (zi s ay lc) m' h0 (by omega) t (cE t ht) (fun bx N n0 m0=>ax);obtain ⟨ae,order,types,⟨rh,rp⟩⟩:=s;simp only at hl hR hN cE;refine eG 34 [.cell 4 26] func63 rfl ntmps63 rfl fun _ _ _ _=>?_;generalize hG:eaR (.mk rh rp) types m=G;have R6:G=eaR (.mk rh rp) (types.drop 0) m:=by rw [List.drop_zero,hG]
 refine b9 (fun j st=>∃ (e:Nat) (m':Int),st=uA ⟨ae,order,types,.mk rh rp⟩ lc (zi ⟨ae,order,types,.mk rh rp⟩ ay lc) m' types e/\e<=types.length/\0<=m' /\ m' <= 512/\G=eaR (.mk rh rp) (types.drop e) m' /\ j=types.length - e) types.length
  (uA ⟨ae,order,types,.mk rh rp⟩ lc (zi ⟨ae,order,types,.mk rh rp⟩ ay lc) m types 0) (jy 3 (by repeat' (first | exact rfl | exact au rfl | exact rfl | refine ⟨_,_,rfl,?_,?_⟩)) (by repeat' (first | exact trivial | exact au rfl | exact rfl | refine ⟨⟨_,rfl,?_⟩,?_⟩))) ⟨0,m,rfl,by omega,q8,iH,R6,by omega⟩ ?_
 rintro j st ⟨e,m',rfl,he,Fm,Fo,bL,rfl⟩;refine br ?_ ?_<;>intro hL
 ·have av:e < types.length:=by have:=hL;simp [hN] at this;exact this
  obtain ⟨x,hx⟩:=gX av;have hp:=hR m' Fm Fo x.2 (.inr ⟨x,mG hx,rfl⟩);rw [Fv hx] at bL;obtain ⟨xw,⟨xh,xp⟩⟩:=x;refine iX (dNms_get hx) ?_;refine aC 2 0 M4 rfl rfl rfl aT aT hp (fun r cg bl hΦ h1 h2=>?_);obtain ⟨rfl,rfl⟩:=hΦ;have h2:=List.eq_nil_of_length_eq_zero h2;subst h2;refine br ?_ ?_<;>intro hf
  ·have hf:(bH (.mk xh xp) m').1.1≠0:=sU hf;rw [aj hf] at bL;subst bL;exact ⟨Ft.d _,[bC ⟨ae,order,types,.mk rh rp⟩ (.pt lc 0) (.loc 1 0) (bH (.mk xh xp) m').2,zi ⟨ae,order,types,.mk rh rp⟩ ay lc],ax,aT,rfl,rfl⟩
  ·have hf:(bH (.mk xh xp) m').1.1=0:=sU hf;rw [ah (by rw [hf];simp)] at bL;obtain ⟨g1,g2,_,_⟩:=kA hf;exact ⟨uA ⟨ae,order,types,.mk rh rp⟩ lc (zi ⟨ae,order,types,.mk rh rp⟩ ay lc) (bH (.mk xh xp) m').2 types (e + 1),(jy 3 (GK (bV av (by omega))) (iG (bV av (by omega)))),types.length - (e + 1),by omega,e + 1,_,rfl,by omega,by omega,g2,bL,rfl⟩
 ·have bO:e=types.length:=sW hN hL;subst bO;rw [List.drop_length,eaR] at bL;refine aC 2 0 M4 rfl rfl rfl aT aT (hR m' Fm Fo (.mk rh rp) (.inl rfl)) (fun r cg bl hΦ h1 h2=>?_);obtain ⟨rfl,rfl⟩:=hΦ;have h2:=List.eq_nil_of_length_eq_zero h2;subst h2;subst bL;exact ⟨Ft.d _,[bC ⟨ae,order,types,.mk rh rp⟩ (.pt lc 0) (.loc 1 0) (bH (.mk rh rp) m').2,zi ⟨ae,order,types,.mk rh rp⟩ ay lc],ax,aT,rfl,rfl⟩
def fK (s:Sch):Ft:=if 64 < s.types.length then (8,Mf (vd s) 64) else enumL (vd s) 0 (vd s)
def HY (s:Sch) (lc:List DV) (r:DV) (os:List (List DV)) (_:List TkE):Prop:=
 r=(fK s).d/\((fK s).1=0->∃ ay,eT (tL s) ay/\ay.length<=s.types.length/\os=[bC s (.pt lc 0) (.loc 1 0) 0,zi s ay lc])
abbrev Fw (s:Sch) (lc:List DV) (n e:Nat):St:=
 ⟨[aS 0 0,aS 2 2,(3,⟨[],.sl 1 (dj (aw ((vd s).take e))) (some 0)⟩),dJ 27 11 (dNms s.types),aA 28 ((dNms s.types).length),aA 29 e],
  [bC s (.pt lc 0) (.loc 1 0) 0,[.pt lc 0,.v (.slice none 0 0),.v (.int .i64 0),.v (.pointer none),.v (.slice none 0 0)],[.v (.int .i64 0),.v (.int .i64 0)]],[⟨n,9,1,none⟩]⟩
theorem uB (s:Sch) (lc:List DV) (hs:nmsWt s.types<=1099511627776) :
  Ev prog 62 [.loc 0 0] [bC s (.pt lc 0) (.loc 1 0) 0,[.pt lc 0,.v (.slice none 0 0),.v (.int .i64 0),.v (.pointer none),.v (.slice none 0 0)]] [] (HY s lc):=by
 have hN:=fu s.types;have ox:=ku s.types;have BW:=HX s;have hF:=fK.eq_1 s;have pk:∀ {e:Nat} {x:Wd × Ty},s.types[e]? = some x->(vd s)[e]? = some x.1:=fun h=>by simp [vd,h]
 have cm:=pL (tL s) (by rw [qm];omega);have Ue:tL s=aw (vd s):=rfl
 have hw:∀ x∈s.types,x.1.s.size<=1099511627776:=fun x hx=>by
  have:=gj hx;simp only [Wd.wt] at this;omega
 obtain ⟨ae,order,types,⟨rh,rp⟩⟩:=s;simp only at hs hN ox BW pk hw hF;generalize hQ:vd ⟨ae,order,types,.mk rh rp⟩=Q at BW hF pk Ue;refine eG 67 [.cell 2 26] func62 rfl ntmps62 rfl fun _ _ _ _=>?_;refine br ?_ ?_<;>intro h
 ·have h:64 < types.length:=by simp [hN] at h;omega
  obtain ⟨x,hx⟩:∃ x,types[64]? = some x:=⟨_,gE h⟩;have R5:=pk hx;rw [aj h,oM R5] at hF;obtain ⟨xw,⟨xh,xp⟩⟩:=x;refine iX (dNms_get hx) ?_;refine ⟨Ft.d (8,xw.a),[bC ⟨ae,order,types,.mk rh rp⟩ (.pt lc 0) (.loc 1 0) 0,[.pt lc 0,.v (.slice none 0 0),.v (.int .i64 0),.v (.pointer none),.v (.slice none 0 0)]],ax,aT,by rw [hF],fun h0=>by rw [hF] at h0;simp at h0⟩
 have h:¬ 64 < types.length:=by simp [hN] at h;omega
 rw [ah h] at hF;refine lI (fun j st=>∃ e:Nat,st=Fw ⟨ae,order,types,.mk rh rp⟩ lc e e/\e<=types.length/\(aw (Q.take e)).Nodup/\enumL Q 0 Q=enumL Q e (Q.drop e)/\j=types.length - e) ⟨0,rfl,by omega,by simp [aw],rfl,rfl⟩ (fj 3 ⟨0,9,1,none⟩ rfl rfl rfl BC rfl rfl tU) ?_;rintro j st ⟨e,rfl,he,hnd,bL,rfl⟩;rw [bL] at hF;refine br ?_ ?_<;>intro hL
 ·have av:e < types.length:=by have:=hL;simp [hN] at this;exact this
  obtain ⟨x,hx⟩:=gX av;have RE:=hw x (mG hx);have hq:=pk hx;have lA:=il hq;have bo:=qc hq;have u6:=jd hq hnd;have Me:=k0 (aw (Q.take (e + 1))) (by simp [aw];omega);rw [<- lA] at Me;obtain ⟨xw,⟨xh,xp⟩⟩:=x;simp only at RE hq lA bo u6 Me;refine iX (dNms_get hx) ?_;rw [hQ];refine ⟨by simp [bz,aw];omega,⟨by simp [bz,aw,maxLen];omega,by simp [bz,aw];omega⟩,?_⟩;refine cP BL (e9 xw.s (by omega)) ?_;refine br ?_ ?_<;>intro AW
  ·have AW:bG xw.s=false:=sU AW;have hf:aQ Q e xw=9:=by simp [aQ,AW]
   rw [bo,hf,aj (by decide)] at hF;refine ⟨Ft.d (9,xw.a),[bC ⟨ae,order,types,.mk rh rp⟩ (.pt lc 0) (.loc 1 0) 0,[.pt lc 0,.v (.slice none 0 0),.v (.int .i64 0),.v (.pointer none),.v (.slice none 0 0)]],ax,aT,by rw [hF],fun h0=>by rw [hF] at h0;simp at h0⟩
  ·have AW:bG xw.s=true:=sU AW;refine gW D3 rfl Me ax (fun r hr=>?_);obtain ⟨z,rfl,hz⟩:=hr;refine br ?_ ?_<;>intro h2
   ·have h2:0<=z:=sU h2;have hd:eu (Q.take e) xw.s=true:=by grind
    have hf:aQ Q e xw=10:=by simp [aQ,AW,hd]
    rw [bo,hf,aj (by decide)] at hF;refine ⟨Ft.d (10,xw.a),[bC ⟨ae,order,types,.mk rh rp⟩ (.pt lc 0) (.loc 1 0) 0,[.pt lc 0,.v (.slice none 0 0),.v (.int .i64 0),.v (.pointer none),.v (.slice none 0 0)]],ax,aT,by rw [hF],fun h0=>by rw [hF] at h0;simp at h0⟩
   ·have h2:¬ 0<=z:=sU h2;have rA:(aw (Q.take (e + 1))).Nodup:=Classical.byContradiction fun hn=>h2 (hz.2 hn);have hf:aQ Q e xw=0:=by simp [aQ,AW,u6.1 rA]
    rw [hf,ah (by simp)] at bo;have OB:dj (aw (Q.take e)) ++ [[DV.v (.string xw.s)]]=dj (aw ((vd ⟨ae,order,types,.mk rh rp⟩).take (e + 1))):=by rw [hQ];exact lA
    refine ⟨Fw ⟨ae,order,types,.mk rh rp⟩ lc (e + 1) (e + 1),(jy 3 (Hh (bV av (by omega)) OB) (q5 (bV av (by omega)) OB)),types.length - (e + 1),by omega,e + 1,rfl,by omega,rA,bL.trans bo,rfl⟩
 ·have bO:e=types.length:=sW hN hL;have h0:enumL Q e (Q.drop e)=(0,0):=by rw [bO,<- BW,List.drop_length];all_goals rfl
  rw [h0] at hF;have ht:Q.take e=Q:=by rw [bO,<- BW,List.take_length]
  have R8:aw ((vd ⟨ae,order,types,.mk rh rp⟩).take e)=tL ⟨ae,order,types,.mk rh rp⟩:=by rw [hQ,ht,Ue]
  rw [<- R8] at cm;refine dS ?_;refine lX D2 rfl cm ax (fun yy hr=>?_);obtain ⟨ay,hT,gM,rfl⟩:=hr;rw [R8] at hT gM;have Px:DV.pt (bW (aw ((vd ⟨ae,order,types,.mk rh rp⟩).take e)) ay) 0=DV.pt (bW (tL ⟨ae,order,types,.mk rh rp⟩) ay) 0:=congrArg (fun L=>DV.pt (bW L ay) 0) R8;rw [qm] at gM;exact ⟨Ft.d (0,0),[bC ⟨ae,order,types,.mk rh rp⟩ (.pt lc 0) (.loc 1 0) 0,zi ⟨ae,order,types,.mk rh rp⟩ ay lc],ax,(by repeat' (first | exact rfl | exact trivial | exact Or.inr (Or.inl ⟨_,rfl⟩) | exact Or.inr ⟨_,rfl⟩ | exact Or.inl ⟨rfl,rfl⟩ | exact Or.inl rfl | refine Or.inr ⟨_,_,rfl,Nat.zero_le _,rfl,?_⟩ | refine ⟨_,_,rfl,?_,?_⟩ | refine ⟨_,rfl,?_⟩ | exact ⟨nL rfl,rfl⟩ | exact Or.inl Px | refine Or.inr (Or.inr (Or.inr ⟨_,_,rfl,?_⟩)) | exact Or.inl rfl | refine Or.inr ?_)),by rw [hF],fun _=>⟨ay,hT,gM,rfl⟩⟩
def firstA (s:Sch) (k:Nat):Nat:=((s.types.take k).map fun x=>x.2.nn).sum
theorem n4 {s:Sch} {k:Nat} {x:Wd × Ty} (h:s.types[k]? = some x):firstA s (k + 1)=firstA s k + x.2.nn:=by
 unfold firstA;rw [List.take_add_one,h];simp
theorem Cp (s:Sch):∀ k,firstA s k<=nmsWt s.types:=by
 intro k;unfold firstA;generalize s.types=l
 induction l generalizing k with
 | nil=>simp
 | cons x r ih=>
  cases k with
  | zero=>simp
  | succ k=>
   have h1:=ih k;have h2:=x.2.fJ;have h3:=x.2.ek
   grind [nmsWt]
def namedN (s:Sch) (i:Nat):Nat:=firstA s ((endI s (s.types.length + 1) i).getD 0)
def namedL (s:Sch):List Nat:=(List.range s.types.length).map (namedN s)
theorem OC (n:Nat):(List.replicate n (vL [Value.int .i64 0])).flatten=cZ (List.replicate n 0):=by
 induction n with
 | zero=>rfl
 | succ n ih=>simp only [List.replicate_succ,List.flatten_cons,ih];rfl
theorem oN {n m:Nat} {tk:List TkE} {l:List DV} {js:List Int} (h:l=cZ js):WeL n m tk l (cZ js):=by rw [h];exact py js
abbrev Lq (s:Sch) (lc pc:List DV) (m:Int) (l:List Int) (cF e:Nat):St:=
 ⟨[aS 0 0,(2,⟨[],.ms 2 1 0 (dNms s.types).length (dNms s.types).length⟩),aA 3 cF,dJ 18 11 (dNms s.types),aA 19 ((dNms s.types).length),aA 20 e],
  [bC s (.pt lc 0) (.loc 1 0) m,pc,cZ l],[]⟩
abbrev OD (s:Sch) (ay:List Nat) (lc:List DV) (m:Int) (l:List Int) (n e:Nat):St:=
 ⟨[aS 0 0,(2,⟨[],.ms 2 1 0 (dNms s.types).length (dNms s.types).length⟩),aA 40 ((dNms s.types).length),aA 41 e],
  [bC s (.pt lc 0) (.loc 1 0) m,pC s ay (.pt lc 0) (.v (.slice none 0 0)) (.v (.int .i64 0)) (.sl 1 (dInts ((namedL s).take e)) (some 0)),cZ l],[⟨n,3,1,none⟩]⟩
def HZ (s:Sch) (ay:List Nat) (lc:List DV) (m:Int) (_:DV) (os:List (List DV)) (_:List TkE):Prop:=
 os=[bC s (.pt lc 0) (.loc 1 0) m,pC s ay (.pt lc 0) (.v (.slice none 0 0)) (.v (.int .i64 0)) (.sl 1 (dInts (namedL s)) none)]
theorem Lr {l:List Int} {i:Nat} {z:Int} (h:l[i]? = some z):(cZ l)[i]? = some (DV.v (.int .i64 z)):=by simp [cZ,h]
theorem wR (s:Sch) (lc:List DV) (ay:List Nat) (m:Int) (hT:eT (tL s) ay) (gM:ay.length<=1099511627776) (hl:s.types.length<=64) (hr:∀ x∈s.types,Cn s x.2=true) (hs:nmsWt s.types<=1099511627776)
  (hlo:∀ i,i < s.types.length->∃ k,endI s (s.types.length + 1) i=some k) :
  Ev prog 67 [.loc 0 0] [bC s (.pt lc 0) (.loc 1 0) m,zi s ay lc] [] (HZ s ay lc m):=by
 have hN:=fu s.types
 have RZ:∀ x∈s.types,x.2.wt<=1099511627776:=fun x hx=>by
  have:=gj hx;omega
 have Uf:=Cp s;have L2:=fun {k:Nat} {x:Wd × Ty}=>@n4 s k x;have ox:(namedL s).length=s.types.length:=by simp [namedL]
 have wP:=fun (e0:DV)=>wO s (.pt lc 0) ay (.pt lc 0) (.v (.slice none 0 0)) (.v (.int .i64 0)) e0 m hT gM hl hr;obtain ⟨ae,order,types,⟨rh,rp⟩⟩:=s;simp only at hl hr hN hs RZ Uf L2 ox wP hlo;have hN2:(dNms (⟨ae,order,types,.mk rh rp⟩:Sch).types).length=types.length:=hN;refine eG 66 [] func67 rfl ntmps67 rfl fun _ _ _ _=>?_;refine ⟨⟨rfl,by omega,by omega,by omega⟩,?_⟩
 refine b9 (fun j st=>∃ (e:Nat) (l:List Int),st=Lq ⟨ae,order,types,.mk rh rp⟩ lc (zi ⟨ae,order,types,.mk rh rp⟩ ay lc) m l (firstA ⟨ae,order,types,.mk rh rp⟩ e) e/\e<=types.length/\l.length=types.length/\(∀ i:Nat,i < e->l[i]? = some (firstA ⟨ae,order,types,.mk rh rp⟩ i:Int))/\j=types.length - e) types.length
  (Lq ⟨ae,order,types,.mk rh rp⟩ lc (zi ⟨ae,order,types,.mk rh rp⟩ ay lc) m (List.replicate ((dNms types).length:Int).toNat 0) (firstA ⟨ae,order,types,.mk rh rp⟩ 0) 0) (jy 3 (by repeat' (first | exact rfl | exact au rfl | exact oN (OC _) | refine ⟨_,_,rfl,?_,?_⟩)) (by repeat' (first | exact trivial | exact au rfl | exact oN (OC _) | refine ⟨⟨_,rfl,?_⟩,?_⟩))) ⟨0,_,rfl,by omega,by simp [hN],fun _ h=>by omega,by omega⟩ ?_
 rintro j st ⟨e,l,rfl,he,R9,Ls,rfl⟩;refine br ?_ ?_<;>intro hL
 ·have av:e < types.length:=by have:=hL;simp [hN] at this;exact this
  obtain ⟨x,hx⟩:=gX av;have OE:=RZ x (mG hx);have IW:=L2 hx;have HH:=Uf (e + 1);obtain ⟨xw,⟨xh,xp⟩⟩:=x;have hnd:=qk (Ty.mk xh xp).wt (.mk xh xp) (bd _) OE;refine iX (dNms_get hx) ?_;refine ⟨⟨by omega,by omega⟩,?_⟩;refine ⟨by rw [Lh];omega,?_⟩;refine cP I8 hnd ?_;simp only at IW HH;have mR:(cZ l).set (0 + (e:Int).toNat * 1) (DV.v (.int .i64 ((firstA ⟨ae,order,types,.mk rh rp⟩ e:Nat):Int)))=cZ (l.set e ((firstA ⟨ae,order,types,.mk rh rp⟩ e:Nat):Int)):=by grind [Fb]
  have HE:IntKind.i64.wrap (((firstA ⟨ae,order,types,.mk rh rp⟩ e:Nat):Int) + (Ty.mk xh xp).nn)=((firstA ⟨ae,order,types,.mk rh rp⟩ (e + 1):Nat):Int):=by grind [wrap64]
  refine ⟨Lq ⟨ae,order,types,.mk rh rp⟩ lc (zi ⟨ae,order,types,.mk rh rp⟩ ay lc) m (l.set e ((firstA ⟨ae,order,types,.mk rh rp⟩ e:Nat):Int)) (firstA ⟨ae,order,types,.mk rh rp⟩ (e + 1)) (e + 1),(jy 3 (by repeat' (first | exact rfl | exact au rfl | exact oN mR | exact az HE | exact az (bV av (by omega)) | refine ⟨_,_,rfl,?_,?_⟩)) (by repeat' (first | exact trivial | exact au rfl | exact oN mR | exact az HE | exact az (bV av (by omega)) | refine ⟨⟨_,rfl,?_⟩,?_⟩))),types.length - (e + 1),by omega,e + 1,_,rfl,by omega,by rw [List.length_set];exact R9,fun i hi=>?_,rfl⟩;by_cases Hx:i=e
  ·grind
  ·grind
 ·have bO:e=types.length:=sW hN hL;subst bO;refine lJ (fun e=>OD ⟨ae,order,types,.mk rh rp⟩ ay lc m l e e) types.length (fj 3 ⟨0,3,1,none⟩ rfl rfl rfl BC rfl rfl tU) ?_;intro e he;refine br ?_ ?_<;>intro hL
  ·have av:e < types.length:=by have:=hL;simp [hN] at this;exact this
   obtain ⟨k,hk⟩:=hlo e av;have mV:=(uy hk).1;simp only at mV;have hE:=wP (.sl 1 (dInts ((namedL ⟨ae,order,types,.mk rh rp⟩).take e)) none) e av;rw [hk] at hE;have hnn:namedN ⟨ae,order,types,.mk rh rp⟩ e=firstA ⟨ae,order,types,.mk rh rp⟩ k:=by unfold namedN;rw [hk];all_goals rfl
   have pk:(namedL ⟨ae,order,types,.mk rh rp⟩)[e]? = some (firstA ⟨ae,order,types,.mk rh rp⟩ k):=by grind [namedL]
   have lA:dInts ((namedL ⟨ae,order,types,.mk rh rp⟩).take e) ++ [[DV.v (.int .i64 ((firstA ⟨ae,order,types,.mk rh rp⟩ k:Nat):Int))]]=dInts ((namedL ⟨ae,order,types,.mk rh rp⟩).take (e + 1)):=by
    rw [List.take_add_one,pk];simp [dInts]
   refine dS ?_;refine mh en134 hE ax rfl rfl ?_;refine ⟨⟨by simp only [oz];omega,by simp only [oz];omega⟩,?_⟩;have Mi:(cZ l)[0 + (oz (some k)).toNat * 1]? = some (DV.v (.int .i64 ((firstA ⟨ae,order,types,.mk rh rp⟩ k:Nat):Int))):=by grind [oz,Lr]
   refine ⟨_,Mi,?_⟩;refine ⟨by simp [bI];omega,⟨by simp [bI,maxLen];omega,by simp [bI];omega⟩,?_⟩;exact rE ⟨_,by omega,e + 1,rfl,by omega,rfl⟩ (jy 3 (Hh (bV av (by omega)) lA) (q5 (bV av (by omega)) lA))
  ·have bO:e=types.length:=sW hN hL;subst bO;have ht:(namedL ⟨ae,order,types,.mk rh rp⟩).take types.length=namedL ⟨ae,order,types,.mk rh rp⟩:=by rw [<- ox,List.take_length]
   rw [ht];exact ⟨.cj [],[bC ⟨ae,order,types,.mk rh rp⟩ (.pt lc 0) (.loc 1 0) m,pC ⟨ae,order,types,.mk rh rp⟩ ay (.pt lc 0) (.v (.slice none 0 0)) (.v (.int .i64 0)) (.sl 1 (dInts (namedL ⟨ae,order,types,.mk rh rp⟩)) none)],ax,aT,rfl⟩
structure Ed where
 name:ByteArray
 bare:Bool
 cF:Int
 to:Int
 label:Int
 wide:Int
 ck:Int
 cn:Int
 seen:Int
 ca:Int
structure Nd where
 ai:Int
 cF:Int
 lo:Int
 hi:Int
 most:Int
 af:List ByteArray
 aR:List Ed
def H0 (e:Ed):List DV:=[.v (.string e.name),.v (.bool e.bare),.v (.int .i64 e.cF),.v (.int .i64 e.to),.v (.int .i64 e.label),.v (.int .i64 e.wide),.v (.int .i64 e.ck),.v (.int .i64 e.cn),.v (.int .i64 e.seen),.v (.int .i64 e.ca)]
def iv (l:List Ed):List (List DV):=l.map H0
def n5 (n:Nd):List DV:=[.v (.int .i64 n.ai),.v (.int .i64 n.cF),.v (.int .i64 n.lo),.v (.int .i64 n.hi),.v (.int .i64 n.most),.sl 1 (dj n.af) none,.sl 10 (iv n.aR) none]
def eL (l:List Nd):List (List DV):=l.map n5
def n7 (w:Int):Int:=if w=0 then 3 else w
def Cq (lev:List Wd->Int) (p:Ph) (to:Int):Ed:=⟨p.name.s,p.bare,p.name.a,to,lev p.label,n7 p.wide,p.ck,p.cn,lev p.cl,p.ca⟩
def PX (s:Sch) (name:ByteArray):Int:=(namedN s ((cY (tL s) name).getD 0):Int)
def uC (s:Sch) (t:Ty) (k:Nat):Int:=if t.h.ai=9 then PX s t.h.name.s else (k:Int)
def zk (s:Sch) (p:Ph) (u:Ty) (k:Nat):Int:=if p.bare then -1 else uC s u k
mutual
def ndsT (lev:List Wd->Int) (s:Sch):Ty->Nat->List Nd
 | .mk h ps,k=>if h.ai=9 then [] else ⟨h.ai,h.cF,h.lo,h.hi,h.most,aw h.af,edsP lev s ps (k + 1)⟩ :: qq lev s ps (k + 1)
def edsP (lev:List Wd->Int) (s:Sch):Pts->Nat->List Ed
 | .nil,_=>[]
 | .cons p u r,k=>Cq lev p (zk s p u k) :: edsP lev s r (k + if p.bare then 0 else u.nn)
def qq (lev:List Wd->Int) (s:Sch):Pts->Nat->List Nd
 | .nil,_=>[]
 | .cons p u r,k=>(if p.bare then [] else ndsT lev s u k) ++ qq lev s r (k + if p.bare then 0 else u.nn)
end
mutual
theorem iw (lev:List Wd->Int) (s:Sch):∀ (t:Ty) (k:Nat),(ndsT lev s t k).length=t.nn
 | .mk h ps,k=>by
  simp only [ndsT,Ty.nn];split
  ·rfl
  ·rw [List.length_cons,qu lev s ps];omega
theorem qu (lev:List Wd->Int) (s:Sch):∀ (ps:Pts) (k:Nat),(qq lev s ps k).length=ps.nn
 | .nil,k=>rfl
 | .cons p u r,k=>by
  simp only [qq,Pts.nn,List.length_append,qu lev s r];split
  ·rfl
  ·rw [iw lev s u]
end
abbrev Dj (s:Sch) (ay:List Nat) (lc:List DV) (n:Nat):List DV:=pC s ay (.pt lc 0) (.sl 0 (List.replicate n []) (some 0)) (.v (.int .i64 0)) (.sl 1 (dInts (namedL s)) none)
abbrev zl (n:Nat) (base:List DV):TkE:=⟨n,82,7,some base⟩
def JN (s:Sch) (ay:List Nat) (lc:List DV) (m:Int) (n:Nat) (base:List DV) (y:DV) (ve:List Nd) (r:DV) (os:List (List DV)) (tk:List TkE):Prop:=
 r=y/\os=[bC s (.pt lc 0) (.loc 1 0) m,Dj s ay lc (n + ve.length)]/\tk=[zl (n + ve.length) (base ++ (eL ve).flatten)]
def Fx (lev:List Wd->Int) (s:Sch) (ay:List Nat) (lc:List DV) (m:Int) (t:Ty):Prop:=
 ∀ (n:Nat) (base:List DV),n + t.nn<=1099511627776->base.length=n * 7 ->
  Ev prog 68 [.loc 0 0,.agg (gd t)] [bC s (.pt lc 0) (.loc 1 0) m,Dj s ay lc n] [zl n base] (JN s ay lc m n base (.v (.int .i64 (uC s t n))) (ndsT lev s t n))
theorem Cr {X:Lx} (hX:X.OK) (s:Sch) (ay:List Nat) (m:Int) (p:Ph) (u:Ty) (hp:p.wt<=1099511627776) (fA:p.bare=false->Fx X.lev s ay (fk X.af (bW X.af X.ay) X.rows X.js) m u)
  (n:Nat) (base:List DV) (hb:p.bare=false->n + u.nn<=1099511627776) (hbl:base.length=n * 7) :
  Ev prog 136 [.loc 0 0,.agg (Dh p (gd u))] [bC s (.pt (fk X.af (bW X.af X.ay) X.rows X.js) 0) (.loc 1 0) m,Dj s ay (fk X.af (bW X.af X.ay) X.rows X.js) n] [zl n base]
   (JN s ay (fk X.af (bW X.af X.ay) X.rows X.js) m n base (.agg (H0 (Cq X.lev p (zk s p u n)))) (if p.bare then [] else ndsT X.lev s u n)):=by
 have hw1:wdsWt p.label + wdsWt p.cl<=p.wt:=by simp only [Ph.wt];omega
 have Kc:X.pd = .pt (fk X.af (bW X.af X.ay) X.rows X.js) 0:=rfl;have Bw:=fun pc=>ql hX s pc m p.label (by omega);have H2:=fun pc=>ql hX s pc m p.cl (by omega);rw [Kc] at Bw H2;have hE:=fun to=>Cq.eq_1 X.lev p to;have Ug:=zk.eq_1 s p u n;generalize fk X.af (bW X.af X.ay) X.rows X.js=lc at Bw H2 fA ⊢;obtain ⟨ae,order,types,⟨rh,rp⟩⟩:=s;obtain ⟨uh,us⟩:=u;refine eG 52 [.cell 4 90] func136 rfl ntmps136 rfl fun _ _ _ _=>?_;have JO:=Bw [.pt lc 0,.sl 0 (List.replicate n []) none,.v (.int .i64 0),.pt (bW (tL ⟨ae,order,types,.mk rh rp⟩) ay) 0,.sl 1 (dInts (namedL ⟨ae,order,types,.mk rh rp⟩)) none];have JP:=H2 [.pt lc 0,.sl 0 (List.replicate n []) none,.v (.int .i64 0),.pt (bW (tL ⟨ae,order,types,.mk rh rp⟩) ay) 0,.sl 1 (dInts (namedL ⟨ae,order,types,.mk rh rp⟩)) none];apply BJ (fun _=>false) 11 15 [0,1,2,3,4,5,6,7,8,9,10,11,12,13,14,15,16] [0,1,2,3,4,5,6,7,8,9,10,15,11,12,13,14,16] 4 4 mo (by decide +kernel)
 ·refine mh AA JO ax rfl rfl ?_;refine (?_:@Eq St _ _);exact rfl
 ·refine mh AA JO ax rfl rfl ?_;refine (⟨rfl,rfl,?_⟩:_/\_/\_)
  repeat' (first | exact trivial | refine ⟨rfl,?_⟩)
 ·rfl
 refine br ?_ ?_<;>intro hw
 ·have hw:p.wide=0:=sU hw;refine cy [4] (fun _=>false) mo (by decide +kernel) ?_;refine mh AA JP ax rfl rfl ?_;refine br ?_ ?_<;>intro hB
  ·have hB:p.bare=false:=sU hB;refine aC 2 1 Hw rfl rfl rfl aT aT (fA hB n base (hb hB) hbl) (fun r cg bl hΦ h1 h2=>?_);obtain ⟨rfl,rfl,rfl⟩:=hΦ;refine ⟨.agg (H0 ⟨p.name.s,p.bare,p.name.a,uC ⟨ae,order,types,.mk rh rp⟩ (.mk uh us) n,X.lev p.label,3,p.ck,p.cn,X.lev p.cl,p.ca⟩),[bC ⟨ae,order,types,.mk rh rp⟩ (.pt lc 0) (.loc 1 0) m,Dj ⟨ae,order,types,.mk rh rp⟩ ay lc (n + (ndsT X.lev ⟨ae,order,types,.mk rh rp⟩ (.mk uh us) n).length)],ax,aT,?_,?_,?_⟩
   ·simp [hE,zk,hB,n7,hw]
   ·simp [hB]
   ·simp [hB]
  ·have hB:p.bare=true:=sU hB;refine ⟨.agg (H0 ⟨p.name.s,p.bare,p.name.a,-1,X.lev p.label,3,p.ck,p.cn,X.lev p.cl,p.ca⟩),[bC ⟨ae,order,types,.mk rh rp⟩ (.pt lc 0) (.loc 1 0) m,Dj ⟨ae,order,types,.mk rh rp⟩ ay lc n],ax,aT,?_,?_,?_⟩
   ·simp [hE,zk,hB,n7,hw]
   ·simp [hB]
   ·simp [hB,eL]
 ·have hw:¬ p.wide=0:=sU hw;refine cy [4] (fun _=>false) mo (by decide +kernel) ?_;refine mh AA JP ax rfl rfl ?_;refine br ?_ ?_<;>intro hB
  ·have hB:p.bare=false:=sU hB;refine aC 2 1 Hw rfl rfl rfl aT aT (fA hB n base (hb hB) hbl) (fun r cg bl hΦ h1 h2=>?_);obtain ⟨rfl,rfl,rfl⟩:=hΦ;refine ⟨.agg (H0 ⟨p.name.s,p.bare,p.name.a,uC ⟨ae,order,types,.mk rh rp⟩ (.mk uh us) n,X.lev p.label,p.wide,p.ck,p.cn,X.lev p.cl,p.ca⟩),[bC ⟨ae,order,types,.mk rh rp⟩ (.pt lc 0) (.loc 1 0) m,Dj ⟨ae,order,types,.mk rh rp⟩ ay lc (n + (ndsT X.lev ⟨ae,order,types,.mk rh rp⟩ (.mk uh us) n).length)],ax,aT,?_,?_,?_⟩
   ·simp [hE,zk,hB,n7,hw]
   ·simp [hB]
   ·simp [hB]
  ·have hB:p.bare=true:=sU hB;refine ⟨.agg (H0 ⟨p.name.s,p.bare,p.name.a,-1,X.lev p.label,p.wide,p.ck,p.cn,X.lev p.cl,p.ca⟩),[bC ⟨ae,order,types,.mk rh rp⟩ (.pt lc 0) (.loc 1 0) m,Dj ⟨ae,order,types,.mk rh rp⟩ ay lc n],ax,aT,?_,?_,?_⟩
   ·simp [hE,zk,hB,n7,hw]
   ·simp [hB]
   ·simp [hB,eL]
def PY (h:Hd):List DV:=[.v (.int .i64 h.ai),.v (.int .i64 h.cF),.v (.int .i64 h.lo),.v (.int .i64 h.hi),.v (.int .i64 h.most),.sl 1 (dj (aw h.af)) none,.v (.slice none 0 0)]
theorem H3 {h:Hd} {base R:List DV} {n:Nat} {x:DV} (hb:base.length=n * 7):(base ++ (PY h ++ R)).set (n * 7 + 6) x=base ++ ([.v (.int .i64 h.ai),.v (.int .i64 h.cF),.v (.int .i64 h.lo),.v (.int .i64 h.hi),.v (.int .i64 h.most),.sl 1 (dj (aw h.af)) none,x] ++ R):=by
 rw [List.set_append_right _ _ (by omega),hb,Nat.add_sub_cancel_left];rfl
theorem sP (l:List Ed) (e:Ed):iv l ++ [H0 e]=iv (l ++ [e]):=by simp [iv]
theorem dD (l:List Ed):(iv l).length=l.length:=by simp [iv]
theorem mq (lev:List Wd->Int) (s:Sch):∀ (ps:Pts) (k:Nat),(edsP lev s ps k).length=ps.len
 | .nil,_=>rfl
 | .cons p u r,k=>by simp [edsP,Pts.len,mq lev s r]
abbrev OG (s:Sch) (ay:List Nat) (lc:List DV) (m:Int) (n:Nat) (base:List DV) (h:Hd) (ps:Pts) (q e:Nat):St:=
 ⟨[aS 0 0,aS 3 2,aA 7 n,aS 8 3,dJ 61 2 (bf h.af),aA 62 ((bf h.af).length),aA 63 e],
  [bC s (.pt lc 0) (.loc 1 0) m,Dj s ay lc n,gd (.mk h ps),[.v (.int .i64 h.ai),.v (.int .i64 h.cF),.v (.int .i64 h.lo),.v (.int .i64 h.hi),.v (.int .i64 h.most),.sl 1 (dj (aw (h.af.take e))) (some 1),.v (.slice none 0 0)]],
  [zl n base,⟨q,9,1,none⟩]⟩
abbrev Fy (s:Sch) (ay:List Nat) (lc:List DV) (m:Int) (n:Nat) (h:Hd) (ps:Pts) (n':Nat) (mr:List DV) (Es:List Ed) (q1 q2 e:Nat):St:=
 ⟨[aS 0 0,aS 3 2,aA 7 n,(11,⟨[],.sl 10 (iv Es) (some 2)⟩),dJ 92 18 (ej ps),aA 93 ((ej ps).length),aA 94 e],
  [bC s (.pt lc 0) (.loc 1 0) m,Dj s ay lc n',gd (.mk h ps)],
  [zl n' mr,⟨q1,9,1,none⟩,⟨q2,90,10,none⟩]⟩
theorem qv {X:Lx} {L:List ByteArray} {h:Hd} {ps:Pts} (hk:(knT X L (.mk h ps)).1=0):(h.ai=9->cY L h.name.s≠none)/\(knP X L ps).1=0:=by grind [knT]
theorem nr {X:Lx} {L:List ByteArray} {p:Ph} {u:Ty} {r:Pts} (hk:(knP X L (.cons p u r)).1=0):(p.bare=false->(knT X L u).1=0)/\(knP X L r).1=0:=by grind [knP]
theorem sQ {X:Lx} (hX:X.OK) (s:Sch) (ay:List Nat) (m:Int) (hT:eT (tL s) ay) (gM:ay.length<=1099511627776):∀ (k:Nat) (t:Ty),t.wt<=k->t.wt<=1099511627776->(knT X (tL s) t).1=0 ->
  Fx X.lev s ay (fk X.af (bW X.af X.ay) X.rows X.js) m t
 | 0,t,hn,_,_=>by have:=t.gA;omega
 | k + 1,.mk h ps,hn,cE,Ao=>by
  have ih:=sQ hX s ay m hT gM k;intro n base hnb hbl;obtain ⟨Sa,PZ⟩:=qv Ao;have JQ:=fun (p:Ph) (u:Ty)=>Cr hX s ay m p u;generalize fk X.af (bW X.af X.ay) X.rows X.js=lc at ih JQ ⊢;simp only [Ty.wt,Hd.wt] at hn cE;have u2:=ps.iU;have ox:=bQ h.af;have hf:=ff (tL s) ay h.name.s hT gM;have BW:=qm s;have hnmL:(namedL s).length=s.types.length:=by simp [namedL]
  have H4:uC s (.mk h ps) n=if h.ai=9 then PX s h.name.s else (n:Int):=rfl
  have Cs:ndsT X.lev s (.mk h ps) n=if h.ai=9 then [] else ⟨h.ai,h.cF,h.lo,h.hi,h.most,aw h.af,edsP X.lev s ps (n + 1)⟩ :: qq X.lev s ps (n + 1):=by rw [ndsT]
  have hnn:(Ty.mk h ps).nn=if h.ai=9 then 0 else 1 + ps.nn:=by rw [Ty.nn]
  generalize hS:s=S at *;subst hS;obtain ⟨ae,order,types,⟨rh,rp⟩⟩:=s;refine eG 117 [.tmp 4] func68 rfl ntmps68 rfl fun _ _ _ _=>?_;refine br ?_ ?_<;>intro h9
  ·have h9:h.ai=9:=sU h9;obtain ⟨i,hi⟩:=Option.ne_none_iff_exists'.1 (Sa h9);have NQ:=(dN hi).1;rw [hi] at hf;rw [aj h9] at H4 Cs;have pk:(namedL ⟨ae,order,types,.mk rh rp⟩)[i]? = some (namedN ⟨ae,order,types,.mk rh rp⟩ i):=by grind [namedL]
   refine dI ?_;refine cD jK hf ?_;refine iX (dL pk) ?_;refine ⟨.v (.int .i64 (namedN ⟨ae,order,types,.mk rh rp⟩ i:Nat)),[bC ⟨ae,order,types,.mk rh rp⟩ (.pt lc 0) (.loc 1 0) m,Dj ⟨ae,order,types,.mk rh rp⟩ ay lc n],ax,aT,?_,?_,?_⟩
   ·rw [H4,PX,hi];rfl
   ·rw [Cs];rfl
   ·rw [Cs];simp [eL]
  have h9:¬ h.ai=9:=sU h9;rw [ah h9] at H4 Cs hnn;have fN:(List.replicate n ([]:List DV)).length=n:=List.length_replicate;refine lJ (fun e=>OG ⟨ae,order,types,.mk rh rp⟩ ay lc m n base h ps e e) h.af.length (fj 4 ⟨0,9,1,none⟩ rfl rfl rfl (GK fN) rfl rfl (iG fN)) ?_;intro e he;refine br ?_ ?_<;>intro hL
  ·have av:e < h.af.length:=by simpa [aE] using hL
   obtain ⟨w,hw⟩:=gX av;have lA:=il hw;refine ⟨kj w,⟨by omega,cz hw⟩,?_⟩;refine ⟨by simp [bz,aw];omega,⟨by simp [bz,aw,maxLen];omega,by simp [bz,aw];omega⟩,?_⟩;exact rE ⟨_,by omega,e + 1,rfl,by omega,rfl⟩ (jy 4 (Hh (bV av (by omega)) lA) (q5 (bV av (by omega)) lA))
  have bO:e=h.af.length:=by have:=hL;simp [aE] at this;omega
  subst bO;rw [List.take_length];refine dS ?_;refine ⟨⟨⟨fN,by simp⟩,by simp [maxLen];omega,by simp;omega⟩,?_⟩
  refine b9 (fun j st=>∃ (e n':Nat) (mr:List DV) (Es:List Ed) (K:List Nd),st=Fy ⟨ae,order,types,.mk rh rp⟩ ay lc m n h ps n' mr Es h.af.length e e/\e<=ps.len/\n'=n + 1 + K.length/\mr=base ++ (PY h ++ (eL K).flatten)/\Es.length=e /\
    K ++ qq X.lev ⟨ae,order,types,.mk rh rp⟩ (ps.drop e) (n + 1 + K.length)=qq X.lev ⟨ae,order,types,.mk rh rp⟩ ps (n + 1)/\Es ++ edsP X.lev ⟨ae,order,types,.mk rh rp⟩ (ps.drop e) (n + 1 + K.length)=edsP X.lev ⟨ae,order,types,.mk rh rp⟩ ps (n + 1)/\K.length + (ps.drop e).nn=ps.nn/\(knP X (tL ⟨ae,order,types,.mk rh rp⟩) (ps.drop e)).1=0/\j=ps.len - e) ps.len
   (Fy ⟨ae,order,types,.mk rh rp⟩ ay lc m n h ps (n + 1) (base ++ (PY h ++ [])) [] h.af.length 0 0) (fj 3 ⟨0,90,10,none⟩ rfl rfl rfl BC rfl rfl tU) ⟨0,n + 1,_,[],[],rfl,by omega,rfl,rfl,rfl,rfl,rfl,by simp [Pts.drop],PZ,by omega⟩ ?_
  rintro j st ⟨e,n',mr,Es,K,rfl,he,IV,ee,L3,hK,Mj,P4,PW,rfl⟩
  have Sb:mr.length=n' * 7:=by
   have:∀ l:List Nd,(eL l).flatten.length=l.length * 7:=by
    intro l
    induction l with
    | nil=>rfl
    | cons a r ih=>simp only [eL,List.map_cons,List.flatten_cons,List.length_append,List.length_cons] at ih ⊢;rw [ih];simp only [n5,List.length_cons,List.length_nil];omega
   rw [ee,List.length_append,List.length_append,this,hbl,IV];simp only [PY,List.length_cons,List.length_nil];omega
  refine br ?_ ?_<;>intro hL
  ·have av:e < ps.len:=by simpa [aU] using hL
   obtain ⟨p,u,hx⟩:=Pts.gB av;have Jv:=Pts.gZ (mG hx);rw [Pts.drop_cons hx] at hK Mj P4 PW;obtain ⟨gL,DT⟩:=nr PW;simp only [qq] at hK;simp only [edsP] at Mj;simp only [Pts.nn] at P4;rw [<- IV] at hK Mj;have QO:=u.fJ;have P5:=u.ek;have cx:=JQ p u (by omega) (fun hB=>ih u (by omega) (by omega) (gL hB)) n' mr (fun hB=>by rw [hB] at P4;simp only [Bool.false_eq_true,if_false] at P4;omega) Sb;have sR:=iw X.lev ⟨ae,order,types,.mk rh rp⟩ u n';obtain ⟨uh,us⟩:=u;refine iX (dc hx) ?_;refine aC 2 1 Na rfl rfl rfl aT aT cx (fun r cg bl hΦ h1 h2=>?_);obtain ⟨rfl,rfl,rfl⟩:=hΦ;refine ⟨by rw [dD,L3],⟨by simp [dD,L3,maxLen];omega,by simp [dD,L3];omega⟩,?_⟩
   have Sc:(if p.bare then [] else ndsT X.lev ⟨ae,order,types,.mk rh rp⟩ (.mk uh us) n').length=if p.bare then 0 else (Ty.mk uh us).nn:=by
    split
    ·rfl
    ·exact sR
   have Uh:n + 1 + (K.length + (if p.bare then 0 else (Ty.mk uh us).nn))=n' + if p.bare then 0 else (Ty.mk uh us).nn:=by rw [IV];omega
   refine ⟨Fy ⟨ae,order,types,.mk rh rp⟩ ay lc m n h ps (n' + (if p.bare then [] else ndsT X.lev ⟨ae,order,types,.mk rh rp⟩ (.mk uh us) n').length) (mr ++ (eL (if p.bare then [] else ndsT X.lev ⟨ae,order,types,.mk rh rp⟩ (.mk uh us) n')).flatten) (Es ++ [Cq X.lev p (zk ⟨ae,order,types,.mk rh rp⟩ p (.mk uh us) n')]) h.af.length (e + 1) (e + 1),(jy 3 (by repeat' (first | exact rfl | exact au rfl | exact az (bV av (by omega)) | exact dx (sP _ _) rfl | refine ⟨_,_,rfl,?_,?_⟩)) (by repeat' (first | exact trivial | exact au rfl | exact az (bV av (by omega)) | exact dx (sP _ _) rfl | refine ⟨⟨_,rfl,?_⟩,?_⟩))),
    ps.len - (e + 1),by omega,e + 1,_,_,_,K ++ (if p.bare then [] else ndsT X.lev ⟨ae,order,types,.mk rh rp⟩ (.mk uh us) n'),rfl,by omega,?_,?_,?_,?_,?_,?_,DT,rfl⟩
   ·rw [List.length_append,IV];omega
   ·rw [ee];simp [eL]
   ·simp [L3]
   ·simp_all
   ·simp_all
   ·rw [List.length_append,Sc];omega
  ·have bO:e=ps.len:=by have:=hL;simp [aU] at this;omega
   subst bO;rw [Pts.dQ] at hK Mj;simp only [qq,List.append_nil] at hK;simp only [edsP,List.append_nil] at Mj;have hKl:K.length=ps.nn:=by rw [hK,qu]
   have Sd:(List.replicate n' ([]:List DV)).length=n':=List.length_replicate;refine Ch (kt:=0) ⟨rfl,rfl⟩ ⟨rfl,rfl,rfl⟩ ⟨rfl,rfl,rfl⟩ rfl rfl rfl rfl rfl rfl rfl rfl rfl rfl rfl Sd ⟨by omega,by omega⟩ (by decide) ?_;have OH:n + (ndsT X.lev ⟨ae,order,types,.mk rh rp⟩ (.mk h ps) n).length=n':=by rw [Cs,List.length_cons,<- hK,IV];omega
   have ph:mr.set ((n:Int).toNat * 7 + 6) (.sl 10 (iv Es) none)=base ++ (eL (ndsT X.lev ⟨ae,order,types,.mk rh rp⟩ (.mk h ps) n)).flatten:=by
    rw [ee,show (n:Int).toNat=n by omega,H3 hbl,Cs,Mj,hK];rfl
   refine ⟨.v (.int .i64 n),[bC ⟨ae,order,types,.mk rh rp⟩ (.pt lc 0) (.loc 1 0) m,Dj ⟨ae,order,types,.mk rh rp⟩ ay lc n'],ax,aT,?_,?_,?_⟩
   ·rw [H4]
   ·rw [OH]
   ·rw [OH,<- ph];rfl
end Go.Proofs.YtfdedoiiahbnnaaGreat
namespace Go.Proofs.YtfdedoiiahbnnaaGreat
namespace Dv
open Go Go.RowKit
section
variable {X:Ctx} {st:St} {k:List It} {E:En} {a:Act} {w:World} {ops:Array Oper} {W:Nat->Bool} {C:World->Prop} {Q:Act->World->Prop} {i:Nat} {r:List Nat} {o:Oper}
theorem bK (hg:o.guard=none):Region.wanted o (yielded ops a.tmps)=true:=by
 unfold Region.wanted;rw [hg]
theorem uD {bx:List (List DV)} {wr:World} (h:Rel X E st a w) (hE:mW E bx wr) (hC:∀ w',C w' -> CC E bx wr w'):Rl E bx C st.sl a where
 tm:=h.tm
 cM:=fun i cs hi=>by
  by_cases aY:cs=[]
  ·subst aY;have av:i < E.β.length:=by rw [hE.len];exact (gS hi).1
   exact ⟨_,[],gE av,⟨bE _,by simp⟩,fun w' _ j u hj=>by simp at hj⟩
  ·obtain ⟨b,ty,arr,hb,hw,hc⟩:=hE.cM i cs hi aY;exact ⟨b,arr,hb,hc,fun w' h' j u hj=>by rw [bD (((hC w' h').o i b cs hb hi aY).trans hw)];simpa using hj⟩
 cc:=fun x v hx w' h'=>(hC w' h').c x v hx
theorem H5 {bx:List (List DV)} (h:Env E bx w) (m:List Nat):mW E (maskL m 0 bx) w:=⟨by rw [ke];exact h.len,fun i cs hi aY=>by
 rcases kg m _ _ _ _ hi with h1 | h1
 ·exact (aY h1).elim
 ·exact h.cM i cs h1⟩
theorem jg (hR:Rel X E st a w) (ho:ops[i]? = some o) (hE:isE o.op=false) (hL:isL o.op=false) (hg:o.guard=none) {s:DV} (hs:pureT X.P X.T ⟨st.sl,[],[]⟩ [] o.op=some s) (hd:dF X.nt st.sl o.dst=true)
  (hk:∀ a',Rel X E (st.put o.dst ⟨[],s⟩) a' w->runT X.P ops W C Q r a' w):runT X.P ops W C Q (i :: r) a w:=by
 have fN:Rl E [] (fun _=>False) st.sl a:=⟨hR.tm,fun i cs hi=>by simp at hi,fun _ _ _ _ h=>h.elim⟩;obtain ⟨v,hv,bg⟩:=cR (st:=⟨st.sl,[],[]⟩) X.hT fN (aG _) hs;simp only [runT,ho,hE,Bool.false_eq_true,if_false];exact ⟨v,.inl ⟨bK hg,fun w' _=>bg w' fun h=>by rw [hL] at h;cases h⟩,fun h=>(by rw [hL] at h;cases h),hk _ (aO hR hd s v hv)⟩
theorem H6 (hR:Rel X E st a w) (ho:ops[i]? = some o) {bx:List (List DV)} (fN:Rl E bx C st.sl a) (Hi:C w) (hE:isE o.op=false) (hg:o.guard=none) {s:DV} (hs:pureT X.P X.T ⟨st.sl,bx,[]⟩ [] o.op=some s) (hd:dF X.nt st.sl o.dst=true)
  (hk:∀ a',Rel X E (st.put o.dst ⟨[],s⟩) a' w->runT X.P ops W C Q r a' w):runT X.P ops W C Q (i :: r) a w:=by
 obtain ⟨v,hv,bg⟩:=cR (st:=⟨st.sl,bx,[]⟩) X.hT fN (aG _) hs;simp only [runT,ho,hE,Bool.false_eq_true,if_false];exact ⟨v,.inl ⟨bK hg,fun w' h=>bg w' h⟩,fun _=>Hi,hk _ (aO hR hd s v hv)⟩
theorem H7 (hR:Rel X E st a w) (ho:ops[i]? = some o) {t x d:Nat} {b p j:Nat} {n:Nat} {kd:TK} {z:List Value} (hb:E.β[j]? = some b) (ou:o.op = .load t (.tmp x)) (gz:o.dst=some d) {i2 zm b2:Nat} (kR:E.β[i2]? = some b2) (hx:rv st [] (.tmp x)=some (.loc i2 p)) (hT:X.T.find t=some ⟨n,false,kd,z⟩)
  (hC:∀ w',C w' -> w'.cell? ⟨b2,p,none⟩=some (.pointer (some ⟨b,zm,none⟩))) (Hi:C w) (hg:o.guard=none) (hd:dF X.nt st.sl (some d)=true)
  (hk:∀ a',Rel X E ⟨(d,⟨[],.loc j zm⟩) :: st.sl,st.bx,st.tk⟩ a' w->runT X.P ops W C Q r a' w):runT X.P ops W C Q (i :: r) a w:=by
 have hE:isE o.op=false:=by rw [ou];all_goals rfl
 simp only [runT,ho,hE,Bool.false_eq_true,if_false];have hv:Rv E (.loc j zm) (.pointer (some ⟨b,zm,none⟩)):=by unfold Rv;exact ⟨b,hb,rfl⟩
 refine ⟨.pointer (some ⟨b,zm,none⟩),.inl ⟨bK hg,fun w' h=>?_⟩,fun _=>Hi,?_⟩
 ·have QM:=hC w' (h (by rw [ou];rfl));have e1:=aK hR.rl hx;unfold Rv at e1;obtain ⟨b3,GI,e1⟩:=e1;rw [kR] at GI;simp only [oI] at GI;subst GI;have G1:=(te_parts X.hT hT).2.1
  have hl:(loadVar t ⟨b2,p,none⟩).run X.P w' = .ok (.pointer (some ⟨b,zm,none⟩)) w':=by
   simp [loadVar,gn G1,QM]
  simp only [execOp,ou,e1,Sem.run_bind,Instr.loadAt,Instr.sureAddr,Sem.run_pure,Result.andThen_ok,hl]
 ·rw [gz];exact hk _ (aO hR hd (.loc j zm) _ hv)
theorem Ct (hR:Rel X E st a w) (ho:ops[i]? = some o) {dst:Option Nat} {f:Operand} {args:Array Operand} {P6:Array TypeId} (ou:o.op = .call ⟨.value f,args,P6⟩) (gz:o.dst=dst) (hg:o.guard=none) {g:FuncId} {ds:List DV} (hf:rv st [] f=some (.fn g [] [])) (hl:argsV st [] args.toList=some ds) (gV:Enters X.P g)
  {K:Value->World->Prop} (hc:∀ vs,RvL E ds vs->Calls X.P g vs.toArray w fun e w'=>∃ v,e = .returned v/\K v w') (hk:∀ v w',K v w' -> (W i=false->C w->C w')/\runT X.P ops W C Q r (a.put dst v) w'):runT X.P ops W C Q (i :: r) a w:=by
 have hE:isE o.op=true:=by rw [ou];all_goals rfl
 have wS:=bK (ops:=ops) (a:=a) hg;have fN:=hR.rl;have e1:=aK fN hf;unfold Rv at e1;obtain ⟨l1,r1,e1,Bw,hr1⟩:=e1;simp only [RvL] at Bw hr1;subst Bw hr1;have hargs:=eZ fN (aG _) _ _ hl;simp only [runT,ho,hE,if_true,cd,wS];subst gz;obtain ⟨dst,op,ty,pos,after,gu⟩:=o;simp only at ou;subst ou
 have hr:(execOp a.eval ⟨dst,.call ⟨.value f,args,P6⟩,ty,pos,after,gu⟩).run X.P w = .ok (.enter g (args.toList.map a.eval).toArray) w:=by
  have e3:(([]:List Value).toArray ++ args.map a.eval ++ ([]:List Value).toArray)=(args.toList.map a.eval).toArray:=by apply Array.ext';simp
  simp only [execOp,resolve,e1,Deferred.ofValue,Sem.run_bind,Sem.run_pure,Result.andThen_ok,invoke,e3];exact gV _ _
 unfold wq;rw [hr];refine (hc _ hargs).mono ?_;rintro e w' ⟨v,rfl,hK⟩;exact ⟨v,rfl,hk v w' hK⟩
theorem H8 (hR:Rel X E st a w) (ho:ops[i]? = some o) {dst:Option Nat} {f:Operand} {args:Array Operand} {P6:Array TypeId} (ou:o.op = .call ⟨.value f,args,P6⟩) (gz:o.dst=dst) (hg:o.guard=none) {g:FuncId} {ds KU:List DV} (hf:rv st [] f=some (.fn g [] [])) (hl:argsV st [] args.toList=some ds) (gV:Enters X.P g)
  {os:List (List DV)} (n1 m1:Nat) (vu:Nat.ble n1 st.bx.length=true) (iH:Nat.ble m1 st.tk.length=true) (vz:jw [] n1 n1 m1 os (st.bx.take n1)) (ha:CcL [] n1 n1 m1 KU ds)
  {Φ:DV->List (List DV)->List TkE->Prop} (hc:Ev X.P g KU os (st.tk.take m1) Φ) (bo:X.still=false) (hX:X.bt=[])
  (hk:∀ v r' cg bl E' w',Φ r' cg bl -> cg.length=n1->bl.length=m1->Rel X E' ⟨st.sl,cg ++ st.bx.drop n1,bl ++ st.tk.drop m1⟩ a w' -> Rv E' r' v->Ext E E' -> E'.β=E.β->(∀ (i:Nat) b,n1<=i->E.β[i]? = some b->w'.heap[b]? = w.heap[b]?) ->
   (W i=false->C w->C w')/\runT X.P ops W C Q r (a.put dst v) w'):runT X.P ops W C Q (i :: r) a w:=by
 refine Ct hR ho ou gz hg hf hl gV (K:=fun v w'=>∃ r' cg bl E',Φ r' cg bl /\ cg.length=n1/\bl.length=m1/\Rel X E' ⟨st.sl,cg ++ st.bx.drop n1,bl ++ st.tk.drop m1⟩ a w' /\ Rv E' r' v/\Ext E E' /\ E'.β=E.β/\∀ (i:Nat) b,n1<=i->E.β[i]? = some b->w'.heap[b]? = w.heap[b]?)
  (fun vs hv=>?_) ?_
 ·refine (qd n1 m1 vu iH vz ha hc bo hX hR hv).mono ?_
  grind
 ·grind
theorem H9 (h:Rel X E st a w) (j o k:Nat) {n ty e:Nat} {Di:List DV} {es ns:List (List DV)} (hq:st.tk[k]? = some ⟨n,ty,e,some ns.flatten⟩) (u6:∀ x∈ns,x.length=e) (ox:ns.length=n) (hj:st.bx[j]? = some Di) (ho:Di[o]? = some (.sl 0 es (some k))) (gU:es.length=n) :
  ∃ E',Rel X E' ⟨st.sl,st.bx.set j (Di.set o (.sl e ns none)),st.tk.set k ⟨n,ty,e,none⟩⟩ a w:=yZ hq u6 ox hj ho gU E a w h
theorem Cu (hR:Rel X E st a w) (ho:ops[i]? = some o) (hE:isE o.op=true) (hg:o.guard=none) (hW:W i=true) (hd:dF X.nt st.sl o.dst=true) {p:Prop} (hp:effC X st o (go X 4000 k)=some p) (h:p):runT X.P ops W C (fun a w=>kq X k .normal a w) [i] a w:=by
 have wS:=bK (ops:=ops) (a:=a) hg;simp only [runT,ho,hE,if_true,cd,wS];refine iN ?_ (kU hd hR hp h);rintro a' w' ⟨aJ,E',rr,hr,_⟩;exact ⟨(fun h=>by rw [hW] at h;cases h),go_sound 4000 _ _ rr _ _ _ hr⟩
mutual
theorem nu {i j:Nat}:∀ d:DV,renD (swp i j) (renD (swp i j) d)=d
 | .v x=>rfl
 | .ud=>rfl
 | .agg l=>by simp only [renD,gl]
 | .cj l=>by simp only [renD,gl]
 | .sl e es tk=>rfl
 | .pt cs o=>rfl
 | .loc k o=>by simp only [renD,iS]
 | .el k o=>by simp only [renD,iS]
 | .ms k e o l c=>by simp only [renD,iS]
 | .fn g l r=>by simp only [renD,gl]
 | .lF t x=>by simp only [renD,nu]
theorem gl {i j:Nat}:∀ l:List DV,renL (swp i j) (renL (swp i j) l)=l
 | []=>rfl
 | d :: r=>by simp only [renL,nu,gl]
end
theorem sS {i j:Nat}:∀ l:List (Nat × Sl),renS (swp i j) (renS (swp i j) l)=l
 | []=>rfl
 | (k,⟨gs,s⟩) :: r=>by simp only [renS,nu,sS]
theorem sX {i j:Nat}:∀ l:List (List DV),renO (swp i j) (renO (swp i j) l)=l
 | []=>rfl
 | c :: r=>by simp only [renO,gl,sX]
theorem Fz {i j:Nat} (f:Nat->Nat) (l:List (List DV)) (hi:i < l.length) (hj:j < l.length):renO f (swL i j l)=swL i j (renO f l):=by
 apply List.ext_getElem?
 grind [pD,dW,cO]
theorem wT {i j:Nat} {S:St} (hi:i < S.bx.length) (hj:j < S.bx.length):ch i j (ch i j S)=S:=by
 obtain ⟨sl,bx,tk⟩:=S;simp only [ch,sS];rw [Fz _ _ (by rw [cO];exact hi) (by rw [cO];exact hj),sX];congr 1;apply List.ext_getElem?
 grind [dW,dz,iS]
theorem CallG.Cv {f:FuncId} {args:List DV} {dst:Option Nat} (i j:Nat) (DB:Nat.ble X.n0 i=true) (vy:Nat.ble X.n0 j=true) (hi:Nat.blt i st.bx.length=true) (hj:Nat.blt j st.bx.length=true)
  (h:CallG X f (renL (swp i j) args) dst k (ch i j st)) (hX:X.bt=[]:=by exact rfl):CallG X f args dst k st:=by
 have iF:=hi;have eQ:=hj;simp only [Nat.blt_eq] at iF eQ;have hl:(ch i j st).bx.length=st.bx.length:=by simp only [ch,dz,cO]
 exact CallG.yA i j (wT iF eQ).symm (gl args).symm DB vy (by rw [hl];exact hi) (by rw [hl];exact hj) h hX
theorem zn {P:Program} {t e:TypeId} (hu:P.underlying t=some (.slice e)) (d:Nat) (x:Option Addr) (n c:Nat) (w:World):(Op.equalIn (d + 1) t (.slice x n c) (.slice none 0 0)).run P w = .ok x.isNone w:=by
 cases x<;>simp [Op.equalIn,run_underlying hu]
theorem FA {P:Program} {t e:TypeId} (hu:P.underlying t=some (.slice e)) (x:Option Addr) (n c:Nat) (w:World):(Op.equal t (.slice x n c) (.slice none 0 0)).run P w = .ok x.isNone w:=zn hu 9999 x n c w
theorem FB {t d e:Nat} {x:Operand} {es:List (List DV)} {tk:Option Nat} {n et e' gg:Nat} {bb:Bool} {z:List Value} (ou:∃ t',o.op = .binOp .eql t x (.const (.slice none 0 0)) t') (gz:o.dst=some d) (hx:rv st [] x=some (.sl e es tk)) (hT:X.T.find t=some ⟨n,bb,.sl et e' gg,z⟩) (hd:dF X.nt st.sl (some d)=true)
  (hk:∀ b:Bool,(es ≠ []->b=false)->go X 4000 k ⟨(d,⟨[],.v (.bool b)⟩) :: st.sl,st.bx,st.tk⟩):L0 X o k st:=by
 intro E a w h;obtain ⟨t',ou⟩:=ou;have e1:=aK h.rl hx;unfold Rv at e1;obtain ⟨b,m,cap,e1,⟨rfl,_⟩,hr,_⟩:=e1;obtain ⟨hu,_⟩:=dt X.hT hT;have bL:=FA hu b es.length cap w
 have bg:(execOp a.eval o).run X.P w = .ok (.value (.bool b.isNone)) w:=by
  have hc:a.eval (.const (.slice none 0 0)) = .slice none 0 0:=rfl;simp [execOp,ou,e1,hc,eqGuard,binOp,bL]
 refine ij bg ?_;rw [gz];refine go_sound 4000 _ _ (hk b.isNone fun aY=>?_) E _ w (aO h hd (.v (.bool b.isNone)) _ (by unfold Rv;exact ⟨rfl,rfl⟩));have:=kS (hr aY).1;rw [this];rfl
theorem OI {t d et e gg n:Nat} {bb:Bool} {z:List Value} (ou:o.op = .buildSlice t 0 #[]) (gz:o.dst=some d) (hT:X.T.find t=some ⟨n,bb,.sl et e gg,z⟩) (hd:dF X.nt st.sl (some d)=true) (bo:X.still=false:=by exact rfl) (hX:X.bt=[]:=by exact rfl) :
  L6 X o st ⟨(d,⟨[],.sl e [] (some st.tk.length)⟩) :: st.sl,st.bx,st.tk ++ [⟨0,et,e,none⟩]⟩:=by
 intro E a w h;obtain ⟨hu,ii,zv,rj,hz,cf,x9,Dq⟩:=dt X.hT hT;have lQ:eW X.P et=some e:=by rw [dG rj,cf]
 have bg:(execOp a.eval o).run X.P w = .ok (.value (.slice (some ⟨w.heap.size,0,none⟩) 0 0)) (w.alloc (.cells #[] et)):=by
  have h1:(Instr.buildSlice t 0 #[]).run X.P w = .ok (.slice (some ⟨w.heap.size,0,none⟩) 0 0) (w.alloc (.cells #[] et)):=by
   have h0:Array.range 0 = #[]:=rfl;simp [Instr.buildSlice,run_underlying hu,aD lQ,Instr.fill,newRow,h0]
  simp only [execOp,ou,List.map_toArray,List.map_nil,Sem.run_bind,h1,Result.andThen_ok,Sem.run_pure]
 refine cG bg ?_;rw [gz];have gL:=h.env.fX (w':=w.alloc (.cells #[] et)) fun i hi=>alloc_old w _ hi
 let E2:En:=⟨E.c,E.β,E.tk ++ [⟨0,et,e,none⟩],E.τ ++ [.slice (some ⟨w.heap.size,0,none⟩) 0 0]⟩
 have hext:Ext E E2:=⟨fun _ _ h=>h,fun _ _ h=>h,fun k q' hk=>by
  have av:=(gS hk).1;refine ⟨q',by show (E.tk ++ _)[k]? = _;rw [c9 av];exact hk,.inl ⟨rfl,?_⟩⟩;show (E.τ ++ _)[k]? = _
  rw [c9 (by rw [h.env.tl];exact av)]⟩
 have hτ:∀ (k:Nat) y,E2.τ[k]? = some y->(k < E.τ.length/\E.τ[k]? = some y)∨(k=E.τ.length/\y = .slice (some ⟨w.heap.size,0,none⟩) 0 0):=fun k y hy=>by grind
 have ed:∀ (k:Nat) y g,E.τ[k]? = some y->y.ownBlock=some g->g < w.heap.size:=fun k y g hy hg=>(h.env.own (mG hy) hg).1
 have ba:Rel X E2 ⟨st.sl,st.bx,st.tk ++ [⟨0,et,e,none⟩]⟩ a (w.alloc (.cells #[] et)):=by
  refine bU h hext ?_ (by show E.tk ++ _=_;rw [h.tk]) ?_ (h.fr.alloc _) (kF bo) (.nil hX)
  ·exact {
    len:=h.env.len
    tl:=by show (E.τ ++ _).length=(E.tk ++ _).length;simp [h.env.tl]
    cM:=fun i cs hi=>by
     obtain ⟨b,t,arr,hb,hw,hc⟩:=gL.cM i cs hi;exact ⟨b,t,arr,hb,hw,hc.mono hext⟩
    inj:=h.env.inj
    sub:=gL.sub
    pc:=h.env.pc
    bN:=fun k q' y OJ hy=>by
     rcases hτ k y hy with ⟨av,eS⟩ | ⟨rfl,rfl⟩
     ·have fF:(E.tk ++ [⟨0,et,e,none⟩])[k]? = some q':=OJ;rw [c9 (by rw [<- h.env.tl];exact av)] at fF;exact gL.bN k q' y fF eS
     ·have fF:(E.tk ++ [⟨0,et,e,none⟩])[E.τ.length]? = some q':=OJ;rw [List.getElem?_append_right (by rw [h.env.tl];exact bd _),h.env.tl] at fF;simp only [Nat.sub_self,List.getElem?_cons_zero,oI] at fF;subst fF;refine .inr ⟨w.heap.size,0,#[],rfl,gf w _,⟨by simp,lH.none rfl⟩,bd _,Nat.zero_le _,fun hm=>?_,fun x v hx yh=>?_⟩
      ·have:=h.env.aN hm;omega
      ·have:=World.block_lt_of_cell? w x (h.env.sub x v hx);omega
    fH:=fun k k' y y' g rW hy eS hg om=>by
     rcases hτ k y hy with ⟨_,re⟩ | ⟨rfl,rfl⟩
     ·rcases hτ k' y' eS with ⟨_,iL⟩ | ⟨rfl,rfl⟩
      ·exact h.env.fH k k' y y' g rW re iL hg om
      ·have:=ed k y g re hg;simp only [Value.ownBlock,oI] at om;omega
     ·rcases hτ k' y' eS with ⟨_,iL⟩ | ⟨rfl,rfl⟩
      ·have:=ed k' y' g iL om;simp only [Value.ownBlock,oI] at hg;omega
      ·exact rW rfl }
  ·exact {
    c:=h.nw.c
    cn:=h.nw.cn
    β:=h.nw.β
    tk:=fun j q0 y0 rX rf=>by
     obtain ⟨q',y',h1,h2,h3⟩:=h.nw.tk j q0 y0 rX rf
     grind
    tn:=fun j y g hj hy hg=>by
     rcases hτ j y hy with ⟨_,re⟩ | ⟨_,rfl⟩
     ·exact h.nw.tn j y g hj re hg
     ·simp only [Value.ownBlock,oI] at hg;have:=h.fr.size;omega
    l0:=h.nw.l0 }
 refine ⟨E2,aO ba hd (.sl e [] (some st.tk.length)) _ ?_,hext,⟨[],by simp [E2]⟩,fun i b hb _=>alloc_old w _ (h.env.aN (mG hb))⟩;unfold Rv;refine ⟨_,0,0,rfl,⟨rfl,bd _⟩,fun hn=>(hn rfl).elim,fun k' fF=>?_⟩;cases fF;refine ⟨⟨0,et,e,none⟩,?_,bd _,fun _=>?_⟩
 ·show (E.tk ++ _)[st.tk.length]? = _;rw [h.tk];simp
 ·show (E.τ ++ _)[st.tk.length]? = _;rw [<- h.tk,<- h.env.tl];simp
theorem wU {t d et e gg n:Nat} {bb:Bool} {z:List Value} (ou:o.op = .buildSlice t 0 #[]) (gz:o.dst=some d) (hT:X.T.find t=some ⟨n,bb,.sl et e gg,z⟩) (hd:dF X.nt st.sl (some d)=true) (bo:X.still=false:=by exact rfl) (hX:X.bt=[]:=by exact rfl)
  (hk:go X 4000 k ⟨(d,⟨[],.sl e [] (some st.tk.length)⟩) :: st.sl,st.bx,st.tk ++ [⟨0,et,e,none⟩]⟩):L0 X o k st:=(OI ou gz hT hd bo hX).g hk
theorem Ia (h:Rel X E st a w) (bo:X.still=false) (hX:X.bt=[]) {g n ty e cap:Nat} {cur:Array Value} (hw:w.heap[g]? = some (.cells cur ty (0,0))) (cf:cur.size=cap * e) (hn:n<=cap) (vA:cap<=maxLen) (hb:g ∉ E.β)
  (hc:∀ x v,E.c x=some v->x.block=g->x.off < n * e) (ed:∀ (k:Nat) y,E.τ[k]? = some y->y.ownBlock≠some g) (hg:X.w0.heap.size<=g) :
  Rel X ⟨E.c,E.β,E.tk ++ [⟨n,ty,e,none⟩],E.τ ++ [.slice (some ⟨g,0,none⟩) n cap]⟩ ⟨st.sl,st.bx,st.tk ++ [⟨n,ty,e,none⟩]⟩ a w:=by
 let E2:En:=⟨E.c,E.β,E.tk ++ [⟨n,ty,e,none⟩],E.τ ++ [.slice (some ⟨g,0,none⟩) n cap]⟩
 have hext:Ext E E2:=⟨fun _ _ h=>h,fun _ _ h=>h,fun k q' hk=>by
  have av:=(gS hk).1;refine ⟨q',by show (E.tk ++ _)[k]? = _;rw [c9 av];exact hk,.inl ⟨rfl,?_⟩⟩;show (E.τ ++ _)[k]? = _
  rw [c9 (by rw [h.env.tl];exact av)]⟩
 have hτ:∀ (k:Nat) y,E2.τ[k]? = some y->(k < E.τ.length/\E.τ[k]? = some y)∨(k=E.τ.length/\y = .slice (some ⟨g,0,none⟩) n cap):=fun k y hy=>by grind
 refine bU h hext ?_ (by show E.tk ++ _=_;rw [h.tk]) ?_ h.fr (kF bo) (.nil hX)
 ·exact {
   len:=h.env.len
   tl:=by show (E.τ ++ _).length=(E.tk ++ _).length;simp [h.env.tl]
   cM:=fun i cs hi=>by
    obtain ⟨b,t,arr,hb,hw,hc⟩:=h.env.cM i cs hi;exact ⟨b,t,arr,hb,hw,hc.mono hext⟩
   inj:=h.env.inj
   sub:=h.env.sub
   pc:=h.env.pc
   bN:=fun k q' y OJ hy=>by
    rcases hτ k y hy with ⟨av,eS⟩ | ⟨rfl,rfl⟩
    ·have fF:(E.tk ++ [⟨n,ty,e,none⟩])[k]? = some q':=OJ;rw [c9 (by rw [<- h.env.tl];exact av)] at fF;exact h.env.bN k q' y fF eS
    ·have fF:(E.tk ++ [⟨n,ty,e,none⟩])[E.τ.length]? = some q':=OJ;rw [List.getElem?_append_right (by rw [h.env.tl];exact bd _),h.env.tl] at fF;simp only [Nat.sub_self,List.getElem?_cons_zero,oI] at fF;subst fF;exact .inr ⟨g,cap,cur,rfl,hw,⟨cf,fun cs h=>by cases h⟩,hn,vA,hb,hc⟩
   fH:=fun k k' y y' g' rW hy eS kJ GM=>by
    rcases hτ k y hy with ⟨_,re⟩ | ⟨rfl,rfl⟩
    ·rcases hτ k' y' eS with ⟨_,iL⟩ | ⟨rfl,rfl⟩
     ·exact h.env.fH k k' y y' g' rW re iL kJ GM
     ·simp only [Value.ownBlock,oI] at GM;subst GM;exact ed k y re kJ
    ·rcases hτ k' y' eS with ⟨_,iL⟩ | ⟨rfl,rfl⟩
     ·simp only [Value.ownBlock,oI] at kJ;subst kJ;exact ed k' y' iL GM
     ·exact rW rfl }
 ·exact {
   c:=h.nw.c
   cn:=h.nw.cn
   β:=h.nw.β
   tk:=fun j q0 y0 rX rf=>by
    obtain ⟨q',y',h1,h2,h3⟩:=h.nw.tk j q0 y0 rX rf
    grind
   tn:=fun j y g' hj hy om=>by
    rcases hτ j y hy with ⟨_,re⟩ | ⟨_,rfl⟩
    ·exact h.nw.tn j y g' hj re om
    ·simp only [Value.ownBlock,oI] at om;omega
   l0:=h.nw.l0 }
end
end Dv
end Go.Proofs.YtfdedoiiahbnnaaGreat
set_option maxRecDepth 100000
namespace Go.Proofs.YtfdedoiiahbnnaaGreat
open Go Go.RowKit Dv Go.Proofs.Tryz
theorem zo {l:List Wd} {o:List (Wd × Wd)} (h:(latF l o).1=0):(ir l o).1=0/\(enumL l 0 l).1=0/\(numF (aw l) o).1=0/\bq (qb l.length (gN l.length (fg (aw l) o))) l.length=none/\bq (mj (gN l.length (fg (aw l) o)) l.length) l.length=none:=by grind [latF]
theorem dZ {p:Nat->Bool} {n:Nat} (h:bq p n=none):∀ a,a < n->p a=false:=by grind [bq]
theorem wV {l:List Wd} {o:List (Wd × Wd)} (h:(latF l o).1=0):jU (gN l.length (fg (aw l) o)) l.length/\l.length<=32:=by
 obtain ⟨h1,h2,h3,h4,h5⟩:=zo h;have hP:=uv h3;rw [fy] at hP
 have GO:l ≠ []:=by
  rintro rfl;simp [ir] at h1
 have h32:l.length<=32:=by grind [ir]
 have Oq:∀ a b,a < l.length->b < l.length->jS (gN l.length (fg (aw l) o)) l.length a b=false:=by
  have key:∀ a b,a<=b->b < l.length->jS (gN l.length (fg (aw l) o)) l.length a b=false:=fun a b NN hb=>by grind [dZ,mj]
  intro a b ha hb;rcases Nat.le_total a b with h | h
  ·exact key a b h hb
  ·grind [jS,qf,qg]
 refine ⟨{
  pos:=List.length_pos_iff.2 GO
  rfl':=fun a ha=>sE hP ha
  tr:=fun a b c ha hb hc=>yX hP ha hb hc
  Ou:=fun a b ha hb h6 h7=>by grind [dZ,qb]
  jn:=fun a b ha hb=>by
   have:=Oq a b ha hb;unfold jS at this;simp only [Bool.or_eq_false_iff,Option.isNone_eq_false_iff] at this;exact Option.isSome_iff_exists.1 this.1
  mt:=fun a b ha hb=>by
   have:=Oq a b ha hb;unfold jS at this;simp only [Bool.or_eq_false_iff,Option.isNone_eq_false_iff] at this
   exact Option.isSome_iff_exists.1 this.2 },h32⟩
def uE (s:Sch) (ay:List Nat) (js:List Int):Lx:=⟨aw s.ae,ay,closeR (dM s.ae.length (fg (aw s.ae) s.order)) s.ae.length,js,gN s.ae.length (fg (aw s.ae) s.order)⟩
theorem Ib {s:Sch} {d:DV} (h:(latF s.ae s.order).1=0) (hd:Lj s.ae s.order d) (hw:s.ae.length<=1099511627776):∃ ay js,(uE s ay js).OK/\d=(uE s ay js).pd:=by
 obtain ⟨ay,js,hT,gM,qY,mE,rfl⟩:=hd;obtain ⟨h1,h2⟩:=wV h;refine ⟨ay,js,⟨hT,by show ay.length<=_;omega,?_,?_,?_⟩,rfl⟩
 ·show jU _ (aw s.ae).length;rw [fy];exact h1
 ·show (aw s.ae).length<=32;rw [fy];exact h2
 ·show ∀ x y,x < (aw s.ae).length->y < (aw s.ae).length->JM _ (aw s.ae).length js x y;rw [fy];exact mE
def gI (s:Sch) (l:List Wd):Int:=zd (gN s.ae.length (fg (aw s.ae) s.order)) (aw s.ae) l
def rF (s:Sch) (t:Ty):Ft:=knT ⟨aw s.ae,[],[],[],fun _ _=>false⟩ (tL s) t
mutual
theorem sY {X Y:Lx} (h:X.af=Y.af) (L:List ByteArray):∀ t:Ty,knT X L t=knT Y L t
 | .mk h1 ps=>by rw [knT,knT,sZ h L ps]
theorem sZ {X Y:Lx} (h:X.af=Y.af) (L:List ByteArray):∀ ps:Pts,knP X L ps=knP Y L ps
 | .nil=>by rw [knP,knP]
 | .cons p t r=>by
  rw [knP,knP,sZ h L r,sY h L t];unfold Lx.bad;rw [h]
end
theorem Lt (s:Sch) (ay:List Nat) (js:List Int) (t:Ty):knT (uE s ay js) (tL s) t=rF s t:=sY (X:=uE s ay js) (Y:=⟨aw s.ae,[],[],[],fun _ _=>false⟩) rfl (tL s) t
def ln (s:Sch):Ft:=
 if (latF s.ae s.order).1≠0 then latF s.ae s.order
 else if (fK s).1≠0 then fK s
 else if (eaR s.root s.types 0).1.1≠0 then (eaR s.root s.types 0).1
 else if (eaL (rF s) (rF s s.root) s.types).1≠0 then eaL (rF s) (rF s s.root) s.types
 else loopF s
def ndsAll (lev:List Wd->Int) (s:Sch):List (Wd × Ty)->Nat->List Nd
 | [],_=>[]
 | x :: r,k=>ndsT lev s x.2 k ++ ndsAll lev s r (k + x.2.nn)
def qw (s:Sch):List Nd:=ndsAll (gI s) s s.types 0
def cu (s:Sch):List Nd:=qw s ++ ndsT (gI s) s s.root (qw s).length
def dm (s:Sch):Int:=uC s s.root (qw s).length
def JR (s:Sch) (ay ib:List Nat) (js:List Int):List DV:=
 [(uE s ay js).pd,.sl 7 (eL (cu s)) none,.v (.int .i64 (dm s)),.pt (bW (tL s) ib) 0,.sl 1 (dInts (namedL s)) none]
def FC (s:Sch) (d:DV):Prop:=∃ ay ib js,(uE s ay js).OK/\eT (tL s) ib/\ib.length<=s.types.length/\d = .pt (JR s ay ib js) 0
def zp (s:Sch) (r:DV) (_:List (List DV)) (_:List TkE):Prop:=
 if (ln s).1≠0 then r = .cj [.v (.pointer none),(ln s).d] else ∃ d,FC s d/\r = .cj [d,Ft.d (0,0)]
theorem jW {s:Sch} {f:Ft} {os:List (List DV)} {tk:List TkE} (h:ln s=f) (hf:f.1≠0):zp s (.cj [.v (.pointer none),f.d]) os tk:=by
 unfold zp;rw [h,aj hf]
theorem Ic {s:Sch} {d:DV} {os:List (List DV)} {tk:List TkE} (h:(ln s).1=0) (hd:FC s d):zp s (.cj [d,Ft.d (0,0)]) os tk:=by grind [zp]
theorem FD {F:Ty->Ft} {z:Ft}:∀ {l:List (Wd × Ty)},(eaL F z l).1=0->z.1=0/\∀ x∈l,(F x.2).1=0
 | [],h=>⟨h,fun x hx=>by cases hx⟩
 | x :: r,h=>by
  rw [eaL] at h;split at h
  ·rename_i h1;exact (h1 h).elim
  ·rename_i h1;obtain ⟨h2,h3⟩:=FD h
   grind
theorem FE {z:Ty}:∀ {l:List (Wd × Ty)} {m:Int},0<=m->(eaR z l m).1.1=0->(wrong z 1 0).1.1=0/\(∀ x∈l,(wrong x.2 1 0).1.1=0)/\(eaR z l m).2=m + ((l.map fun x=>x.2.cnt).sum + z.cnt:Nat)/\(eaR z l m).2<=512
 | [],m,_,h=>by grind [eaR,kA]
 | x :: r,m,hm,h=>by
  rw [eaR] at h ⊢;split at h
  ·rename_i h1;exact (h1 h).elim
  ·rename_i h1;rw [ah h1];obtain ⟨g1,g2,g3,_⟩:=kA (sU h1);obtain ⟨h2,h3,h4,h5⟩:=FE (by omega) h
   grind
theorem qx (lev:List Wd->Int) (s:Sch):∀ (l:List (Wd × Ty)) (k:Nat),(ndsAll lev s l k).length=(l.map fun x=>x.2.nn).sum
 | [],_=>rfl
 | x :: r,k=>by simp only [ndsAll,List.length_append,iw,qx lev s r,List.map_cons,List.sum_cons]
theorem qy:∀ l:List (Wd × Ty),(l.map fun x=>x.2.nn).sum<=(l.map fun x=>x.2.cnt).sum
 | []=>bd _
 | x :: r=>by
  have:=x.2.fJ;have:=qy r
  grind
theorem s5:∀ l:List Nd,(eL l).flatten.length=l.length * 7
 | []=>rfl
 | a :: r=>by
  have:=s5 r;simp only [eL,List.map_cons,List.flatten_cons,List.length_append,List.length_cons] at this ⊢;rw [this];simp only [n5,List.length_cons,List.length_nil];omega
theorem Ie {X:Lx} {s:Sch} {t:Ty} (h:(knT X (tL s) t).1=0):Cn s t=true:=by
 obtain ⟨hd,ps⟩:=t;have:=(qv h).1;unfold Cn;exact decide_eq_true this
theorem wW {s:Sch} (h:(loopF s).1=0):∀ i,i < s.types.length->∃ k,endI s (s.types.length + 1) i=some k:=by
 intro i hi;unfold loopF at h;split at h
 ·rename_i h1;have:=dZ h1 i hi;simp only [Option.isNone_eq_false_iff] at this;exact Option.isSome_iff_exists.1 this
 ·cases h
abbrev FF (s:Sch) (ay:List Nat) (lc:List DV) (m:Int) (f1 f2:Int) (n:Nat) (base:List DV) (e:Nat):St:=
 ⟨[aS 1 4,aS 3 3,aS 6 0,dJ 59 11 (dNms s.types),aA 60 ((dNms s.types).length),aA 61 e],
  [bC s (.pt lc 0) (.loc 1 0) m,Dj s ay lc n,[.v (.int .i64 f1),.v (.int .i64 f2)],[.v (.int .i64 0),.v (.int .i64 0)],yO s],[zl n base]⟩
theorem qz (s:Sch) (hs:s.wt<=1099511627776):Ev prog 26 [.agg (yO s)] [] [] (zp s):=by
 have hF:=ln.eq_1 s;have hw:=hs;simp only [Sch.wt] at hw;have Mk:=bQ s.ae;have wS:=ku s.types;have Hz:=wG s.ae s.order (by omega) (by omega);have ov:=fun lc=>uB s lc (by omega)
 have cE:∀ t,(t=s.root∨∃ x∈s.types,t=x.2)->t.wt<=1099511627776:=fun t ht=>by
  rcases ht with rfl | ⟨x,hx,rfl⟩
  ·omega
  ·have:=gj hx;omega
 have OL:=fun lc ay=>zj s lc ay 0 (by omega) (by omega) (by omega) cE;have OM:=fun (X:Lx) (hX:X.OK) (ay:List Nat) (hT:eT (tL s) ay) (gM:ay.length<=1099511627776) (m:Int)=>Co s X.pd (zi s ay (fk X.af (bW X.af X.ay) X.rows X.js)) m (by omega) 65 KS (knT X (tL s)) (fun t ht=>qp hX s ay (.pt (fk X.af (bW X.af X.ay) X.rows X.js) 0) (.v (.slice none 0 0)) (.v (.int .i64 0)) (.v (.slice none 0 0)) m hT gM t.wt t (bd _) (cE t ht));have Lu:(fK s).1=0->s.types.length<=64:=fun h=>by grind [fK]
 have hLx:=fun d h hd=>@Ib s d h hd (by omega);have JS:=fun (lat:DV) (ay:List Nat) (a b c e0:DV) (m:Int)=>zh s lat ay a b c e0 m;have FG:=fun (lc:List DV) (ay:List Nat) (m:Int)=>wR s lc ay m;have fA:=fun (X:Lx) (hX:X.OK) (ay:List Nat) (m:Int) (hT:eT (tL s) ay) (gM:ay.length<=1099511627776) (t:Ty) (ht:t.wt<=1099511627776)=>sQ hX s ay m hT gM t.wt t (bd _) ht;refine eG 85 [.tmp 2,.cell 3 26] func26 rfl ntmps26 rfl fun _ _ _ _=>?_;generalize hS:s=S at *;obtain ⟨ae,order,types,⟨rh,rp⟩⟩:=s;subst hS;refine gW Q1 rfl Hz ax (fun r hr=>?_);by_cases hL:(latF ae order).1≠0
 ·have RU:=hL;rw [aj (show (latF (Sch.mk ae order types (.mk rh rp)).ae (Sch.mk ae order types (.mk rh rp)).order).1≠0 from hL)] at hF;unfold y7 at hr;rw [aj (show (latF (Sch.mk ae order types (.mk rh rp)).ae (Sch.mk ae order types (.mk rh rp)).order).1≠0 from hL)] at hr;subst hr;refine br ?_ ?_<;>intro h
  ·refine dS ?_;exact ⟨_,ax,jW (os:=[]) (tk:=[]) hF hL⟩
  ·exfalso;simp at h;exact hL h
 unfold y7 at hr;rw [ah (show ¬ (latF (Sch.mk ae order types (.mk rh rp)).ae (Sch.mk ae order types (.mk rh rp)).order).1≠0 from hL)] at hF hr;obtain ⟨d,hd,rfl⟩:=hr;have hL0:(latF ae order).1=0:=sU hL;obtain ⟨ay,js,hX,rfl⟩:=hLx d hL0 hd;generalize P7:uE ⟨ae,order,types,.mk rh rp⟩ ay js=X at hX;refine br (fun h=>?_) (fun _=>?_)
 ·exfalso;simp at h;exact hL h
 refine CallG.Cv 0 4 rfl rfl rfl rfl (CallG.Cv 1 3 rfl rfl rfl rfl ?_);refine aC 2 0 Q2 rfl rfl rfl aT aT (ov (fk X.af (bW X.af X.ay) X.rows X.js)) (fun r cg bl hΦ h1 h2=>?_);obtain ⟨rfl,BU⟩:=hΦ;have h2:=List.eq_nil_of_length_eq_zero h2;subst h2;by_cases AW:(fK ⟨ae,order,types,.mk rh rp⟩).1≠0
 ·rw [aj AW] at hF
  obtain ⟨a,b,rfl⟩:∃ a b,cg=[a,b]:=by
   match cg,h1 with
   | [a,b],_=>exact ⟨a,b,rfl⟩
  refine br ?_ ?_<;>intro h
  ·refine dS ?_;exact ⟨_,ax,jW (os:=[]) (tk:=[]) hF AW⟩
  ·exfalso;simp at h;exact AW h
 rw [ah AW] at hF;have ON:(fK ⟨ae,order,types,.mk rh rp⟩).1=0:=sU AW;have FH:=Lu ON;obtain ⟨ib,hT,gM,rfl⟩:=BU ON;refine br (fun h=>?_) (fun _=>?_)
 ·exfalso;simp at h;exact AW h
 refine aC 2 0 M3 rfl rfl rfl aT aT (OL (fk X.af (bW X.af X.ay) X.rows X.js) ib) (fun r cg bl hΦ h1 h2=>?_);obtain ⟨rfl,rfl⟩:=hΦ;have h2:=List.eq_nil_of_length_eq_zero h2;subst h2;by_cases hR:(eaR (.mk rh rp) types 0).1.1≠0
 ·rw [aj (show (eaR (Sch.mk ae order types (.mk rh rp)).root (Sch.mk ae order types (.mk rh rp)).types 0).1.1≠0 from hR)] at hF;refine br ?_ ?_<;>intro h
  ·refine dS ?_;exact ⟨_,ax,jW (os:=[]) (tk:=[]) hF hR⟩
  ·exfalso;simp at h;exact hR h
 rw [ah (show ¬ (eaR (Sch.mk ae order types (.mk rh rp)).root (Sch.mk ae order types (.mk rh rp)).types 0).1.1≠0 from hR)] at hF;have hR0:(eaR (.mk rh rp) types 0).1.1=0:=sU hR;refine br (fun h=>?_) (fun _=>?_)
 ·exfalso;simp at h;exact hR h
 have Ui:=OM X hX ib hT (by have:types.length<=64:=FH;have:ib.length<=types.length:=gM;omega) (eaR (.mk rh rp) types 0).2;have Lv:∀ t,knT X (tL ⟨ae,order,types,.mk rh rp⟩) t=rF ⟨ae,order,types,.mk rh rp⟩ t:=fun t=>by rw [<- P7];exact Lt _ _ _ t
 have Se:eaL (knT X (tL ⟨ae,order,types,.mk rh rp⟩)) (knT X (tL ⟨ae,order,types,.mk rh rp⟩) (.mk rh rp)) types=eaL (rF ⟨ae,order,types,.mk rh rp⟩) (rF ⟨ae,order,types,.mk rh rp⟩ (.mk rh rp)) types:=by
  rw [show knT X (tL ⟨ae,order,types,.mk rh rp⟩)=rF ⟨ae,order,types,.mk rh rp⟩ from funext Lv]
 refine AQ M3 Ui ax rfl rfl ?_;by_cases hK:(eaL (rF ⟨ae,order,types,.mk rh rp⟩) (rF ⟨ae,order,types,.mk rh rp⟩ (.mk rh rp)) types).1≠0
 ·rw [aj (show (eaL (rF ⟨ae,order,types,.mk rh rp⟩) (rF ⟨ae,order,types,.mk rh rp⟩ (Sch.mk ae order types (.mk rh rp)).root) (Sch.mk ae order types (.mk rh rp)).types).1≠0 from hK)] at hF;refine br ?_ ?_<;>intro h
  ·refine dS ?_;refine ⟨.cj [.v (.pointer none),(eaL (knT X (tL ⟨ae,order,types,.mk rh rp⟩)) (knT X (tL ⟨ae,order,types,.mk rh rp⟩) (.mk rh rp)) types).d],ax,?_⟩;rw [Se];exact jW (os:=[]) (tk:=[]) hF hK
  ·grind
 rw [ah (show ¬ (eaL (rF ⟨ae,order,types,.mk rh rp⟩) (rF ⟨ae,order,types,.mk rh rp⟩ (Sch.mk ae order types (.mk rh rp)).root) (Sch.mk ae order types (.mk rh rp)).types).1≠0 from hK)] at hF;have hK0:(eaL (rF ⟨ae,order,types,.mk rh rp⟩) (rF ⟨ae,order,types,.mk rh rp⟩ (.mk rh rp)) types).1=0:=sU hK;refine br (fun h=>?_) (fun _=>?_)
 ·grind
 have qX:wdsWt ae + prsWt order + nmsWt types + (Ty.mk rh rp).wt<=1099511627776:=hw;have Sf:nmsWt types<=1099511627776:=by omega
 obtain ⟨hkr,DE⟩:=FD hK0;have Sg:(knT X (tL ⟨ae,order,types,.mk rh rp⟩) (.mk rh rp)).1=0:=by rw [Lv];exact hkr
 have OO:∀ x∈types,(knT X (tL ⟨ae,order,types,.mk rh rp⟩) x.2).1=0:=fun x hx=>by rw [Lv];exact DE x hx
 have OP:∀ x∈types,Cn ⟨ae,order,types,.mk rh rp⟩ x.2=true:=fun x hx=>Ie (OO x hx);have Ig:ib.length<=1099511627776:=by have:types.length<=64:=FH;have:ib.length<=types.length:=gM;omega
 refine AQ Q3 (JS X.pd ib X.pd (.v (.slice none 0 0)) (.v (.int .i64 0)) (.v (.slice none 0 0)) (eaR (.mk rh rp) types 0).2 hT Ig FH OP) ax rfl rfl ?_;by_cases hO:(loopF ⟨ae,order,types,.mk rh rp⟩).1≠0
 ·refine br ?_ ?_<;>intro h
  ·refine dS ?_;exact ⟨_,ax,jW (os:=[]) (tk:=[]) hF hO⟩
  ·exfalso;simp at h;exact hO h
 have Uj:(loopF ⟨ae,order,types,.mk rh rp⟩).1=0:=sU hO;have hF0:(ln ⟨ae,order,types,.mk rh rp⟩).1=0:=by rw [hF];exact Uj
 refine br (fun h=>?_) (fun _=>?_)
 ·exfalso;simp at h;exact hO h
 refine aC 2 0 Q4 rfl rfl rfl aT aT (FG (fk X.af (bW X.af X.ay) X.rows X.js) ib (eaR (.mk rh rp) types 0).2 hT Ig FH OP Sf (wW Uj)) (fun r cg bl hΦ h1 h2=>?_);subst hΦ;have h2:=List.eq_nil_of_length_eq_zero h2;subst h2;clear ov OL OM JS FG Ui Hz;have hN:(dNms types).length=types.length:=fu types;obtain ⟨Uk,Jv,hcm,OQ⟩:=FE (Int.le_refl 0) hR0;generalize (eaR (.mk rh rp) types 0).2=m at hcm OQ ⊢
 refine b9 (fun j st=>∃ (e n:Nat) (base:List DV) (N:List Nd),st=FF ⟨ae,order,types,.mk rh rp⟩ ib (fk X.af (bW X.af X.ay) X.rows X.js) m (loopF ⟨ae,order,types,.mk rh rp⟩).1 (loopF ⟨ae,order,types,.mk rh rp⟩).2 n base e/\e<=types.length/\n=N.length/\base=(eL N).flatten/\N ++ ndsAll (gI ⟨ae,order,types,.mk rh rp⟩) ⟨ae,order,types,.mk rh rp⟩ (types.drop e) n=qw ⟨ae,order,types,.mk rh rp⟩/\j=types.length - e) types.length
  (FF ⟨ae,order,types,.mk rh rp⟩ ib (fk X.af (bW X.af X.ay) X.rows X.js) m (loopF ⟨ae,order,types,.mk rh rp⟩).1 (loopF ⟨ae,order,types,.mk rh rp⟩).2 0 [] 0) (fj 5 ⟨0,82,7,some []⟩ rfl rfl rfl BC rfl rfl tU) ⟨0,0,[],[],rfl,by omega,rfl,rfl,rfl,by omega⟩ ?_
 rintro j st ⟨e,n,base,N,rfl,he,hn,Kk,OR,rfl⟩;have Ul:types.length<=64:=FH;have OS:X.lev=gI ⟨ae,order,types,.mk rh rp⟩:=by rw [<- P7];all_goals rfl
 have htot:(qw ⟨ae,order,types,.mk rh rp⟩).length + (Ty.mk rh rp).nn<=512:=by
  have h1:=qy types;have h2:=(Ty.mk rh rp).fJ;have h3:(qw ⟨ae,order,types,.mk rh rp⟩).length=(types.map fun x=>x.2.nn).sum:=qx _ _ _ _;omega
 have hbl:base.length=n * 7:=by rw [Kk,hn,s5]
 have hNl:n + (ndsAll (gI ⟨ae,order,types,.mk rh rp⟩) ⟨ae,order,types,.mk rh rp⟩ (types.drop e) n).length=(qw ⟨ae,order,types,.mk rh rp⟩).length:=by rw [<- OR,List.length_append,hn]
 refine br ?_ ?_<;>intro hL
 ·have av:e < types.length:=by have:=hL;simp [hN] at this;exact this
  obtain ⟨x,hx⟩:=gX av;have Um:=mG hx;rw [drop_cons hx,ndsAll] at OR hNl;rw [List.length_append] at hNl;have ox:=iw (gI ⟨ae,order,types,.mk rh rp⟩) ⟨ae,order,types,.mk rh rp⟩ x.2 n;have HW:=fA X hX ib m hT Ig x.2 (cE x.2 (.inr ⟨x,Um,rfl⟩)) (OO x Um) n base (by omega) hbl;rw [OS] at HW;obtain ⟨xw,⟨xh,xp⟩⟩:=x;refine iX (dNms_get hx) ?_;refine aC 2 1 Hw rfl rfl rfl aT aT HW (fun r cg bl hΦ h1 h2=>?_);obtain ⟨rfl,rfl,rfl⟩:=hΦ;refine ⟨FF ⟨ae,order,types,.mk rh rp⟩ ib (fk X.af (bW X.af X.ay) X.rows X.js) m (loopF ⟨ae,order,types,.mk rh rp⟩).1 (loopF ⟨ae,order,types,.mk rh rp⟩).2 (n + (ndsT (gI ⟨ae,order,types,.mk rh rp⟩) ⟨ae,order,types,.mk rh rp⟩ (.mk xh xp) n).length) (base ++ (eL (ndsT (gI ⟨ae,order,types,.mk rh rp⟩) ⟨ae,order,types,.mk rh rp⟩ (.mk xh xp) n)).flatten) (e + 1),(jy 5 (GK (bV av (by omega))) (iG (bV av (by omega)))),types.length - (e + 1),by omega,e + 1,_,_,N ++ ndsT (gI ⟨ae,order,types,.mk rh rp⟩) ⟨ae,order,types,.mk rh rp⟩ (.mk xh xp) n,rfl,by omega,by rw [List.length_append,hn],by rw [Kk];simp [eL],?_,rfl⟩;rw [List.append_assoc,ox];exact OR
 have bO:e=types.length:=sW hN hL;subst bO;rw [List.drop_length,ndsAll,List.append_nil] at OR;rw [List.drop_length,ndsAll,List.length_nil,Nat.add_zero] at hNl;have Pz:=fA X hX ib m hT Ig (.mk rh rp) (by omega) Sg n base (by omega) hbl;rw [OS] at Pz;intro E a w hr;have ei:=eE hr;obtain ⟨b0,ty0,DI,fI,hw0,hc0⟩:=ei.env.cM 0 _ rfl;obtain ⟨b1,ty1,arr1,mR,hw1,hc1⟩:=ei.env.cM 1 _ rfl;obtain ⟨v13,Sh,OT⟩:=RvL.get (i:=13) (d:=.loc 1 0) hc0.1 rfl;have OU:v13 = .pointer (some ⟨b1,0,none⟩):=by grind [Rv]
 subst OU
 have lR:w.drew.cell? ⟨b0,13,none⟩=some (.pointer (some ⟨b1,0,none⟩)):=by
  rw [bD hw0];simpa using Sh
 have DR:=H5 ei.env [0,1,2,3];generalize u7:maskL [0,1,2,3] 0 _=Si at DR;have Sj:∀ (i:Nat) cs,Si[i]? = some cs->cs ≠ []->2<=i:=fun i cs hi aY=>by grind [maskL]
 refine gY (C:=fun w'=>CC E Si w.drew w' /\ w'.cell? ⟨b0,13,none⟩=some (.pointer (some ⟨b1,0,none⟩))) (W:=fun i=>Nat.beq i 10) (Q:=fun a w=>kq _ _ .normal a w) mo (by decide +kernel) (fun _ _ h=>h) ⟨⟨fun _ _ _ _ _ _=>rfl,ei.env.sub⟩,lR⟩ ?_;show Go.Proofs.YtfdedoiiahbnnaaGreat.Dv.runT _ _ _ _ _ [0,1,2,3,4,5,6,7,8,9,10] _ _;refine jg ei rfl rfl rfl rfl rfl rfl (fun a0 h0=>?_);refine jg h0 rfl rfl rfl rfl rfl rfl (fun a1 h1=>?_);refine jg h1 rfl rfl rfl rfl rfl rfl (fun a2 h2=>?_);refine H7 h2 rfl mR rfl rfl fI rfl rfl (fun w' h=>h.2) ⟨⟨fun _ _ _ _ _ _=>rfl,ei.env.sub⟩,lR⟩ rfl rfl (fun a3 h3=>?_);refine jg h3 rfl rfl rfl rfl rfl rfl (fun a4 h4=>?_);refine jg h4 rfl rfl rfl rfl rfl rfl (fun a5 h5=>?_);refine H6 h5 rfl (bx:=Si) (uD h5 DR (fun w' h=>h.1)) ⟨⟨fun _ _ _ _ _ _=>rfl,ei.env.sub⟩,lR⟩ rfl rfl (by rw [<- u7];rfl) rfl (fun a6 h6=>?_);refine H8 h6 rfl rfl rfl rfl rfl rfl Hw 2 1 rfl rfl aT aT Pz rfl rfl ?_;intro v r cg bl E' w' hΦ _ _ ba Jm hx hβ hh;obtain ⟨rfl,rfl,rfl⟩:=hΦ;refine ⟨fun _ hC=>⟨⟨fun i b cs hb bP aY=>?_,fun x v PS=>ba.env.sub x v (hx.c x v PS)⟩,?_⟩,?_⟩
 ·exact hh i b (Sj i cs bP aY) hb
 ·obtain ⟨b0',ty0',Un,Lw,Ih,Sk⟩:=ba.env.cM 0 _ rfl;rw [hβ,fI] at Lw;simp only [oI] at Lw;subst Lw;obtain ⟨u13,Sm,Ii⟩:=RvL.get (i:=13) (d:=.loc 1 0) Sk.1 rfl;unfold Rv at Ii;obtain ⟨b,hb,rfl⟩:=Ii;rw [hβ,mR] at hb;simp only [oI] at hb;subst hb;rw [bD Ih];simpa using Sm
 have h7:=aO (dst:=some 77) ba rfl _ v Jm;have Sn:(qw ⟨ae,order,types,.mk rh rp⟩).length=n:=by rw [<- OR,hn]
 have ph:base ++ (eL (ndsT (gI ⟨ae,order,types,.mk rh rp⟩) ⟨ae,order,types,.mk rh rp⟩ (.mk rh rp) n)).flatten=(eL (cu ⟨ae,order,types,.mk rh rp⟩)).flatten:=by grind [cu,eL]
 have OV:(eL (cu ⟨ae,order,types,.mk rh rp⟩)).length=n + (ndsT (gI ⟨ae,order,types,.mk rh rp⟩) ⟨ae,order,types,.mk rh rp⟩ (.mk rh rp) n).length:=by
  unfold cu;rw [Sn];simp [eL,Sn]
 obtain ⟨E3,h8⟩:=H9 h7 1 1 0 (ns:=eL (cu ⟨ae,order,types,.mk rh rp⟩)) (congrArg (fun b=>some (zl (n + (ndsT (gI ⟨ae,order,types,.mk rh rp⟩) ⟨ae,order,types,.mk rh rp⟩ (.mk rh rp) n).length) b)) ph) (fun x hx=>by
  simp only [eL,List.mem_map] at hx;obtain ⟨y,_,rfl⟩:=hx
  rfl) OV rfl rfl List.length_replicate
 refine jg h8 rfl rfl rfl rfl rfl rfl (fun a8 h9=>?_);refine jg h9 rfl rfl rfl rfl rfl rfl (fun a9 qZ=>?_);refine Cu qZ rfl rfl rfl rfl rfl rfl ?_;refine ⟨.cj [.pt [X.pd,.sl 7 (eL (cu ⟨ae,order,types,.mk rh rp⟩)) none,.v (.int .i64 (uC ⟨ae,order,types,.mk rh rp⟩ (.mk rh rp) n)),.pt (bW (tL ⟨ae,order,types,.mk rh rp⟩) ib) 0,.sl 1 (dInts (namedL ⟨ae,order,types,.mk rh rp⟩)) none] 0,Ft.d (0,0)],ax,Ic (os:=[]) (tk:=[]) hF0 ⟨ay,ib,js,by rw [P7];exact hX,hT,gM,?_⟩⟩;rw [JR,P7,dm,Sn]
theorem Ij (es:List (List DV)) (hl:es.length<=1099511627776):Ev prog 98 [.sl 1 es none] [] [] (fun r _ _=>r = .sl 1 es none∨(es=[]/\r = .v (.slice none 0 0))):=by
 refine eG 8 [.tmp 2] func98 rfl ntmps98 rfl fun _ _ _ _=>?_;refine FB ⟨_,rfl⟩ rfl rfl rfl rfl (fun b hb=>?_);refine br ?_ ?_<;>intro h
 ·have h:b=true:=h;have he:es=[]:=Classical.byContradiction fun hn=>by rw [hb hn] at h;cases h
  subst he;exact Or.inr ⟨rfl,rfl⟩
 ·refine wU rfl rfl rfl rfl (hk:=?_);refine ⟨rfl,⟨by simp [maxLen];omega,by simp;omega⟩,?_⟩;exact ⟨_,ax,Or.inl rfl⟩
theorem Ik (es:List (List DV)) (hl:es.length<=1099511627776):Ev prog 99 [.sl 10 es none] [] [] (fun r _ _=>r = .sl 10 es none∨(es=[]/\r = .v (.slice none 0 0))):=by
 refine eG 8 [.tmp 2] func99 rfl ntmps99 rfl fun _ _ _ _=>?_;refine FB ⟨_,rfl⟩ rfl rfl rfl rfl (fun b hb=>?_);refine br ?_ ?_<;>intro h
 ·have h:b=true:=h;have he:es=[]:=Classical.byContradiction fun hn=>by rw [hb hn] at h;cases h
  subst he;exact Or.inr ⟨rfl,rfl⟩
 ·refine wU rfl rfl rfl rfl (hk:=?_);refine ⟨rfl,⟨by simp [maxLen];omega,by simp;omega⟩,?_⟩;exact ⟨_,ax,Or.inl rfl⟩
def OW (lc:List DV) (ve:List Nd) (root:Int) (L:List ByteArray) (ay:List Nat) (named:List Nat):DV:=.pt [.pt lc 0,.sl 7 (eL ve) none,.v (.int .i64 root),.pt (bW L ay) 0,.sl 1 (dInts named) none] 0
theorem FI (l:List Nd):(eL l).length=l.length:=by simp [eL]
theorem FJ {l:List Nd} {i:Nat} {n:Nd} (h:l[i]? = some n):(eL l)[i]? = some (n5 n):=by simp [eL,h]
section
variable (lc:List DV) (ve:List Nd) (root:Int) (L:List ByteArray) (ay:List Nat) (named:List Nat)
theorem nv:bh prog 22 [OW lc ve root L ay named] (.v (.int .i64 ve.length)):=by
 refine eG 10 [.tmp 2] func22 rfl ntmps22 rfl fun _ _ _ _=>?_;refine (BD ?_:);rw [FI]
theorem zq:bh prog 23 [OW lc ve root L ay named] (.v (.int .i64 root)):=by
 refine eG 9 [.tmp 2] func23 rfl ntmps23 rfl fun _ _ _ _=>?_;exact (rfl:_=_)
theorem Cw:bh prog 45 [OW lc ve root L ay named] (.pt lc 0):=by
 refine eG 9 [.tmp 2] func45 rfl ntmps45 rfl fun _ _ _ _=>?_;exact ⟨_,ax,rfl⟩
theorem zr (i:Nat) (n:Nd) (h:ve[i]? = some n) (hn:n.af.length<=1099511627776) (he:n.aR.length<=1099511627776) :
  bh prog 38 [OW lc ve root L ay named,.v (.int .i64 i)] (.cj [.agg (n5 n),.v (.bool true)]):=by
 have av:=(gS h).1;have hlen:=nv lc ve root L ay named;have hc1:=Ij (dj n.af) (by rw [bz];exact hn);have jD:=Ik (iv n.aR) (by rw [dD];exact he);refine eG 32 [.cell 4 82,.tmp 5] func38 rfl ntmps38 rfl fun _ _ _ _=>?_;refine cP MY hlen ?_;refine br ?_ ?_<;>intro g
 ·exfalso;simp [pickB] at g;omega
 refine iX (FJ h) ?_;refine dS ?_;refine lX Ro rfl hc1 ax (fun r1 hr1=>?_);rcases hr1 with rfl | ⟨h1,rfl⟩
 ·refine lX M5 rfl jD ax (fun r2 ly=>?_);rcases ly with rfl | ⟨h2,rfl⟩
  ·exact ⟨.cj [.agg (n5 n),.v (.bool true)],ax,rfl⟩
  ·exact ⟨.cj [.agg (n5 n),.v (.bool true)],(by repeat' (first | exact rfl | exact trivial | exact Or.inr (Or.inl ⟨_,rfl⟩) | exact Or.inr ⟨_,rfl⟩ | exact Or.inl ⟨rfl,rfl⟩ | exact Or.inl rfl | refine Or.inr ⟨_,_,rfl,Nat.zero_le _,rfl,?_⟩ | refine ⟨_,_,rfl,?_,?_⟩ | refine ⟨_,rfl,?_⟩ | exact Or.inl ⟨h2,rfl⟩ | refine Or.inr (Or.inr (Or.inr ⟨_,_,rfl,?_⟩)) | exact Or.inl rfl | refine Or.inr ?_)),rfl⟩
 ·refine lX M5 rfl jD ax (fun r2 ly=>?_);rcases ly with rfl | ⟨h2,rfl⟩
  ·exact ⟨.cj [.agg (n5 n),.v (.bool true)],(by repeat' (first | exact rfl | exact trivial | exact Or.inr (Or.inl ⟨_,rfl⟩) | exact Or.inr ⟨_,rfl⟩ | exact Or.inl ⟨rfl,rfl⟩ | exact Or.inl rfl | refine Or.inr ⟨_,_,rfl,Nat.zero_le _,rfl,?_⟩ | refine ⟨_,_,rfl,?_,?_⟩ | refine ⟨_,rfl,?_⟩ | exact Or.inl ⟨h1,rfl⟩ | refine Or.inr (Or.inr (Or.inr ⟨_,_,rfl,?_⟩)) | exact Or.inl rfl | refine Or.inr ?_)),rfl⟩
  ·exact ⟨.cj [.agg (n5 n),.v (.bool true)],(by repeat' (first | exact rfl | exact trivial | exact Or.inr (Or.inl ⟨_,rfl⟩) | exact Or.inr ⟨_,rfl⟩ | exact Or.inl ⟨rfl,rfl⟩ | exact Or.inl rfl | refine Or.inr ⟨_,_,rfl,Nat.zero_le _,rfl,?_⟩ | refine ⟨_,_,rfl,?_,?_⟩ | refine ⟨_,rfl,?_⟩ | exact Or.inl ⟨h1,rfl⟩ | exact Or.inl ⟨h2,rfl⟩ | refine Or.inr (Or.inr (Or.inr ⟨_,_,rfl,?_⟩)) | exact Or.inl rfl | refine Or.inr ?_)),rfl⟩
theorem zt (i:Int) (h:i < 0∨ve.length<=i) :
  bh prog 38 [OW lc ve root L ay named,.v (.int .i64 i)] (.cj [.agg [.v (.int .i64 0),.v (.int .i64 0),.v (.int .i64 0),.v (.int .i64 0),.v (.int .i64 0),.v (.slice none 0 0),.v (.slice none 0 0)],.v (.bool false)]):=by
 have hlen:=nv lc ve root L ay named;refine eG 32 [.cell 4 82,.tmp 5] func38 rfl ntmps38 rfl fun _ _ _ _=>?_;refine br ?_ ?_<;>intro g
 ·refine cP MY hlen ?_;refine br ?_ ?_<;>intro g2
  ·exact ⟨_,ax,rfl⟩
  ·exfalso;simp at g;simp [pickB,g] at g2;omega
 ·exact ⟨_,ax,rfl⟩
end
abbrev oO (s:Sch) (n d k q:Int) (e:Nat):St:=
 ⟨[aS 1 0,aA 3 n,aA 4 d,aA 5 e],[yO s],[]⟩
theorem uF (s:Sch) (cE:s.wt<=1099511627776):Ev prog 14 [.agg (yO s)] [] [] (fun d _ _=>∃ b:Bool,d = .v (.bool b)):=by
 have h1:=bQ s.ae;have h2:=kr s.order;have h3:=ku s.types;simp only [Sch.wt] at cE;have nZ:=jL s.root.wt s.root (bd _) (by omega);obtain ⟨ae,order,types,⟨h,ps⟩⟩:=s;simp only at h1 h2 h3 cE nZ;refine eG 60 [.tmp 2] func14 rfl ntmps14 rfl fun _ _ _ _=>?_;refine br ?_ ?_<;>intro _
 ·exact ⟨true,rfl⟩
 refine cP KR nZ ?_;refine b9 (fun j st=>∃ (e:Nat) (n d:Int),st=oO ⟨ae,order,types,.mk h ps⟩ n d 0 0 e/\e<=types.length/\j=types.length - e) types.length (oO ⟨ae,order,types,.mk h ps⟩ (Ty.mk h ps).cnt (Ty.mk h ps).deep 0 0 0) (cL wB) ⟨0,_,_,rfl,by omega,by omega⟩ ?_;rintro j st ⟨e,n,d,rfl,he,rfl⟩;refine br ?_ ?_<;>intro hL
 ·have av:e < types.length:=by have:=hL;simp [fu] at this;exact this
  obtain ⟨w,hw⟩:=gX av;have Jv:=gj (mG hw);have hs:=jL w.2.wt w.2 (bd _) (by omega);obtain ⟨w,u,us⟩:=w;simp only at hs;refine iX (dNms_get hw) ?_;refine cP KR hs ?_;refine br ?_ ?_<;>intro _
  ·exact ⟨oO ⟨ae,order,types,.mk h ps⟩ _ _ 0 0 (e + 1),(cL (iG (bV av (by omega)))),types.length - (e + 1),by omega,e + 1,_,_,rfl,by omega,rfl⟩
  ·exact ⟨oO ⟨ae,order,types,.mk h ps⟩ _ _ 0 0 (e + 1),(cL (iG (bV av (by omega)))),types.length - (e + 1),by omega,e + 1,_,_,rfl,by omega,rfl⟩
 exact ⟨_,rfl⟩
def samePrs:List (Wd × Wd)->List (Wd × Wd)->Bool
 | [],[]=>true
 | x :: r,y :: s=>(decide (x.1.s=y.1.s) && decide (x.2.s=y.2.s)) && samePrs r s
 | _,_=>false
def sameNms:List (Wd × Ty)->List (Wd × Ty)->Bool
 | [],[]=>true
 | x :: r,y :: s=>(decide (x.1.s=y.1.s) && sameTy x.2 y.2) && sameNms r s
 | _,_=>false
def sf (a b:Sch):Bool:=sameWds a.ae b.ae && samePrs a.order b.order && sameTy a.root b.root && sameNms a.types b.types
theorem Cx:∃ d,Op.maxDepth=d + 1 + 1 + 1:=⟨Op.maxDepth - 3,by decide⟩
theorem FK (p q r s:Int) (w:World):(Op.equal 26 (.agg #[.int .i64 p,.int .i64 q]) (.agg #[.int .i64 r,.int .i64 s])).run prog w = .ok (decide (p=r) && decide (q=s)) w:=by
 have hf:prog.underlying 26=some (.struct (prog.fieldsOf 26)):=by simp [Program.fieldsOf,Tryz.underlying26]
 have u4:(prog.fieldsOf 26).toList=[⟨ "E",24,0,false, "", "",0⟩,⟨ "At",3,1,false, "", "",8⟩]:=by simp [Program.fieldsOf,Tryz.underlying26]
 have hs:prog.stoodInHeld 26=false:=by kernel_rfl
 obtain ⟨d,hm⟩:=Cx
 have q9:∀ cs:Array Value,∀ off v,cs[off]? = some v->(part 24 cs off).run prog w = .ok v w:=fun cs off v h=>by
  simp [part,Tryz.isAgg24,h]
 have q3:∀ cs:Array Value,∀ off v,cs[off]? = some v->(part 3 cs off).run prog w = .ok v w:=fun cs off v h=>by
  simp [part,Tryz.isAgg3,h]
 unfold Op.equal;rw [hm,run_equalIn_struct w (d + 1 + 1) 26 _ _ hf hs,u4];simp only [Op.eqFields,ne_eq,String.reduceEq,not_false_eq_true,if_true,Sem.run_bind,q9 #[.int .i64 p,.int .i64 q] 0 (.int .i64 p) rfl,q9 #[.int .i64 r,.int .i64 s] 0 (.int .i64 r) rfl,Result.andThen_ok,run_equalIn_int w (d + 1) 24 .i64 .i64 p r Tryz.underlying24];by_cases h:p=r
 ·subst h;have e1:=q3 #[.int .i64 p,.int .i64 q] 1 (.int .i64 q) rfl;have e2:=q3 #[.int .i64 p,.int .i64 s] 1 (.int .i64 s) rfl;have e3:=run_equalIn_int w (d + 1) 3 .i64 .i64 q s Tryz.underlying3;by_cases h2:q=s
  ·subst h2;simp [e1,e3,Sem.run_pure]
  ·simp [e1,e2,e3,h2,Sem.run_pure]
 ·simp [h,Sem.run_pure]
theorem Ly (p q r s:Int) (w:World):(binOp .eql 26 (.agg #[.int .i64 p,.int .i64 q]) (.agg #[.int .i64 r,.int .i64 s])).run prog w = .ok (.bool (decide (p=r) && decide (q=s))) w:=by
 show ((do let r <- Op.equal 26 _ _;pure (Value.bool r)):Sem Value).run prog w=_;simp only [Sem.run_bind,FK p q r s w,Result.andThen_ok,Sem.run_pure]
theorem FL (op:BinOp) (w:World) (x y:Operand) (vs vs':Array Value):(eqGuard op 26 x y (.agg vs) (.agg vs')).run prog w = .ok () w:=by
 have h:prog.eqGuardType prog.depth 26=false:=by kernel_rfl
 cases op<;>simp [eqGuard,run_program,h]
theorem Lz (x y:Operand) (f g:Ft):yb prog .eql x y 26 [.v (.int .i64 f.1),.v (.int .i64 f.2)] [.v (.int .i64 g.1),.v (.int .i64 g.2)] (decide (f.1=g.1) && decide (f.2=g.2)):=
 ⟨[.int .i64 f.1,.int .i64 f.2],[.int .i64 g.1,.int .i64 g.2],rfl,rfl,fun w=>⟨FL _ w x y _ _,Ly f.1 f.2 g.1 g.2 w⟩⟩
def cB (r:List Bool):List DV:=r.map fun b=>DV.v (.bool b)
def Cy (r:List Bool):List (List DV):=r.map fun b=>[DV.v (.bool b)]
theorem FM (r:List Bool):(cB r).length=r.length:=by simp [cB]
theorem uG (r:List Bool):(Cy r).length=r.length:=by simp [Cy]
theorem LA {r:List Bool} {i:Nat} {b:Bool} (h:r[i]? = some b):(cB r)[i]? = some (DV.v (.bool b)):=by simp [cB,h]
theorem LB (r:List Bool) (i:Nat) (b:Bool):(cB r).set i (DV.v (.bool b))=cB (r.set i b):=by simp [cB,List.map_set]
theorem Il {r:List Bool} {i:Nat} {b:Bool} (h:r[i]? = some b):(Cy r)[i]? = some [DV.v (.bool b)]:=by simp [Cy,h]
theorem wX (r:List Bool):(Cy r).flatten=cB r:=by
 induction r with
 | nil=>rfl
 | cons b r ih=>simp only [Cy,cB,List.map_cons,List.flatten_cons] at ih ⊢;rw [ih];all_goals rfl
theorem Sp (n:Nat):(List.replicate n (vL [Value.bool false])).flatten=cB (List.replicate n false):=by
 induction n with
 | zero=>rfl
 | succ n ih=>simp only [List.replicate_succ,List.flatten_cons,ih];rfl
theorem cI {n m:Nat} {tk:List TkE} {l:List DV} {r:List Bool} (h:l=cB r):WeL n m tk l (cB r):=by
 subst h;refine uk _ fun x hx=>?_;obtain ⟨z,_,rfl⟩:=List.mem_map.1 hx;exact ⟨_,rfl⟩
def qA (S:Sch):List Ty:=S.types.map fun x=>x.2
def kH (S:Sch):List Ty:=qA S ++ [S.root]
mutual
def flatT:Ty->List Ty
 | .mk h ps=>if h.ai=9 then [] else .mk h ps :: flatP ps
def flatP:Pts->List Ty
 | .nil=>[]
 | .cons p t r=>(if p.bare then [] else flatT t) ++ flatP r
end
mutual
theorem ny:∀ t:Ty,(flatT t).length=t.nn
 | .mk h ps=>by
  have:=s6 ps
  grind [flatT,Ty.nn]
theorem s6:∀ ps:Pts,(flatP ps).length=ps.nn
 | .nil=>rfl
 | .cons p t r=>by
  have:=ny t;have:=s6 r
  grind [flatP,Pts.nn]
end
def zu (S:Sch) (k:Nat):List Bool:=(List.range S.types.length).map fun i=>(endI S k i).isSome
def eaA:List Ty->Int->Ft × Int
 | [],m=>((0,0),m)
 | t :: r,m=>if (bH t m).1.1≠0 then bH t m else eaA r (bH t m).2
theorem FN (z:Ty):∀ (l:List (Wd × Ty)) (m:Int),((eaA (l.map (fun x=>x.2) ++ [z]) m).1.1=0↔(eaR z l m).1.1=0)/\((eaR z l m).1.1≠0->eaA (l.map (fun x=>x.2) ++ [z]) m=eaR z l m)
 | [],m=>by
  show ((eaA [z] m).1.1=0↔(bH z m).1.1=0)/\((bH z m).1.1≠0->eaA [z] m=bH z m)
  grind [eaA,bH]
 | x :: r,m=>by
  have ih:=FN z r (bH x.2 m).2
  grind [eaA,eaR,bH]
def eaK (F:Ty->Ft):List Ty->Ft
 | []=>(0,0)
 | t :: r=>if (F t).1≠0 then F t else eaK F r
theorem FO (F:Ty->Ft) (z:Ty):∀ l:List (Wd × Ty),((eaK F (l.map (fun x=>x.2) ++ [z])).1=0↔(eaL F (F z) l).1=0)/\((eaL F (F z) l).1≠0->eaK F (l.map (fun x=>x.2) ++ [z])=eaL F (F z) l)
 | []=>by
  show ((eaK F [z]).1=0↔(F z).1=0)/\((F z).1≠0->eaK F [z]=F z)
  grind [eaK]
 | x :: r=>by
  have ih:=FO F z r
  grind [eaK,eaL]
theorem FP {F:Ty->Ft}:∀ {l:List Ty},(eaK F l).1=0->∀ t∈l,(F t).1=0
 | [],_,t,ht=>by cases ht
 | u :: r,h,t,ht=>by
  rw [eaK] at h;split at h
  ·rename_i h1;exact (h1 h).elim
  ·rename_i h1;rcases bX ht with rfl | ht
   ·simpa using h1
   ·exact FP h t ht
theorem Im (S:Sch):ln S=if (latF S.ae S.order).1≠0 then latF S.ae S.order
 else if (fK S).1≠0 then fK S
 else if (eaA (kH S) 0).1.1≠0 then (eaA (kH S) 0).1
 else if (eaK (rF S) (kH S)).1≠0 then eaK (rF S) (kH S)
 else loopF S:=by
 have h1:=FN S.root S.types 0;have h2:=FO (rF S) S.root S.types;unfold ln kH qA;by_cases a:(eaR S.root S.types 0).1.1=0
 ·grind
 ·grind
theorem Io {S:Sch} (hs:S.wt<=1099511627776):∀ t∈kH S,t.wt<=1099511627776:=by
 intro t ht;unfold Sch.wt at hs;rcases List.mem_append.1 ht with h | h
 ·obtain ⟨x,hx,rfl⟩:=List.mem_map.1 h;have:=gj hx;omega
 all_goals grind
theorem gJ {l:List Ed} {i:Nat} {e:Ed} (h:l[i]? = some e):(iv l)[i]? = some (H0 e):=by simp [iv,h]
def OX (lev:List Wd->Int) (s:Sch) (t:Ty) (k:Nat):Nd:=⟨t.h.ai,t.h.cF,t.h.lo,t.h.hi,t.h.most,aw t.h.af,edsP lev s t.ps (k + 1)⟩
mutual
theorem uH (lev:List Wd->Int) (s:Sch):∀ (t:Ty) (k:Nat),ndsT lev s t k=(flatT t).zipIdx.map fun x=>OX lev s x.1 (k + x.2)
 | .mk h ps,k=>by
  have ih:=uI lev s ps (k + 1);rw [ndsT,flatT];split
  ·rfl
  ·rw [ih,List.zipIdx_cons,List.map_cons];rw [List.zipIdx_succ,List.map_map];refine congr (congrArg List.cons rfl) (List.map_congr_left fun x _=>?_);simp only [Function.comp];congr 1;omega
theorem uI (lev:List Wd->Int) (s:Sch):∀ (ps:Pts) (k:Nat),qq lev s ps k=(flatP ps).zipIdx.map fun x=>OX lev s x.1 (k + x.2)
 | .nil,k=>rfl
 | .cons p u r,k=>by
  rw [qq,flatP,List.zipIdx_append,List.map_append]
  cases hb:p.bare with
  | true=>
   simp only [if_true,List.zipIdx_nil,List.map_nil,List.nil_append,List.length_nil,Nat.add_zero];exact uI lev s r k
  | false=>
   simp only [Bool.false_eq_true,if_false];rw [uH lev s u k,uI lev s r (k + u.nn),ny];refine congrArg _ ?_;rw [List.zipIdx_eq_map_add (l:=flatP r) (i:=0 + u.nn)];rw [List.map_map];refine List.map_congr_left fun x _=>?_;simp only [Function.comp];congr 1;omega
end
theorem AX {X:Lx} {L:List ByteArray}:∀ {ps:Pts},(knP X L ps).1=0->∀ {p:Ph} {u:Ty},(p,u)∈ps.toList->p.bare=false->(knT X L u).1=0
 | .nil,_,p,u,h,_=>by cases h
 | .cons q v r,hk,p,u,h,hb=>by
  rcases bX h with h | h
  ·cases h;exact (nr hk).1 hb
  ·exact AX (nr hk).2 h hb
def ndsA (lev:List Wd->Int) (s:Sch):List Ty->Nat->List Nd
 | [],_=>[]
 | t :: r,k=>ndsT lev s t k ++ ndsA lev s r (k + t.nn)
def qB (l:List Ty):Nat:=(l.map Ty.nn).sum
theorem jX (t:Ty) (l:List Ty):qB (t :: l)=t.nn + qB l:=by simp [qB]
theorem uJ (a b:List Ty):qB (a ++ b)=qB a + qB b:=by simp [qB]
theorem qC (lev:List Wd->Int) (s:Sch):∀ (l:List Ty) (k:Nat),(ndsA lev s l k).length=qB l
 | [],_=>rfl
 | t :: r,k=>by simp only [ndsA,List.length_append,iw,qC lev s r,jX]
theorem wY (lev:List Wd->Int) (s:Sch):∀ (a b:List Ty) (k:Nat),ndsA lev s (a ++ b) k=ndsA lev s a k ++ ndsA lev s b (k + qB a)
 | [],b,k=>by simp [ndsA,qB]
 | t :: r,b,k=>by rw [List.cons_append,ndsA,ndsA,wY lev s r b,List.append_assoc,jX,Nat.add_assoc]
theorem qD (lev:List Wd->Int) (s:Sch):∀ (l:List (Wd × Ty)) (k:Nat),ndsAll lev s l k=ndsA lev s (l.map fun x=>x.2) k
 | [],_=>rfl
 | x :: r,k=>by rw [ndsAll,List.map_cons,ndsA,qD lev s r]
theorem FQ (s:Sch):(qw s).length=qB (qA s):=by rw [qw,qD,qC];all_goals rfl
theorem nz (s:Sch):cu s=ndsA (gI s) s (kH s) 0:=by
 unfold cu kH;rw [wY,FQ,qw,qD,ndsA,ndsA,List.append_nil,Nat.zero_add];rfl
theorem FR (l:List Ty):∀ e,qB (l.take e)<=qB l:=by
 intro e;have:=uJ (l.take e) (l.drop e);rw [List.take_append_drop] at this;omega
theorem LC (s:Sch):qB (kH s)<=s.wt:=by
 have key:∀ l:List (Wd × Ty),qB (l.map fun x=>x.2)<=nmsWt l:=by
  intro l
  induction l with
  | nil=>exact bd _
  | cons x r ih=>
   have:=x.2.fJ;have:=x.2.ek
   grind [jX,nmsWt]
 have h1:=key s.types;have h2:=s.root.fJ;have h3:=s.root.ek
 grind [kH,uJ,jX,Sch.wt,qA,qB]
mutual
theorem wZ {X:Lx} {L:List ByteArray}:∀ (t:Ty),(knT X L t).1=0->∀ u∈flatT t,(knT X L u).1=0
 | .mk h ps,hk,u,hu=>by
  rw [flatT] at hu;split at hu
  ·cases hu
  ·rcases bX hu with rfl | hu
   ·exact hk
   ·exact w7 ps (qv hk).2 u hu
theorem w7 {X:Lx} {L:List ByteArray}:∀ (ps:Pts),(knP X L ps).1=0->∀ u∈flatP ps,(knT X L u).1=0
 | .nil,_,u,hu=>by cases hu
 | .cons p v r,hk,u,hu=>by
  rw [flatP] at hu;rcases List.mem_append.1 hu with hu | hu
  ·cases hb:p.bare with
   | true=>rw [hb] at hu;cases hu
   | false=>rw [hb] at hu;exact wZ v ((nr hk).1 hb) u hu
  ·exact w7 r (nr hk).2 u hu
end
mutual
theorem xc:∀ (t:Ty),∀ u∈flatT t,u.wt<=t.wt
 | .mk h ps,u,hu=>by
  rw [flatT] at hu;split at hu
  ·cases hu
  ·rcases bX hu with rfl | hu
   ·exact bd _
   ·have:=xd ps u hu;simp only [Ty.wt];omega
theorem xd:∀ (ps:Pts),∀ u∈flatP ps,u.wt<=ps.wt
 | .nil,u,hu=>by cases hu
 | .cons p v r,u,hu=>by
  rw [flatP] at hu;simp only [Pts.wt];rcases List.mem_append.1 hu with hu | hu
  ·split at hu
   ·cases hu
   ·have:=xc v u hu;omega
  ·have:=xd r u hu;omega
end
structure FT (S:Sch):Prop where
 lat:(latF S.ae S.order).1=0
 l64:S.types.length<=64
 kn:∀ t∈kH S,(rF S t).1=0
 ends:∀ i,i < S.types.length->∃ k,endI S (S.types.length + 1) i=some k
 wr:∀ t∈kH S,(wrong t 1 0).1.1=0
theorem FU:∀ {l:List Ty} {m:Int},(eaA l m).1.1=0->∀ t∈l,(wrong t 1 0).1.1=0
 | [],_,_,t,ht=>by cases ht
 | u :: r,m,h,t,ht=>by
  rw [eaA] at h;split at h
  ·rename_i h1;exact (h1 h).elim
  ·rename_i h1;rcases bX ht with rfl | ht
   ·exact (kA (sU h1)).2.2.1
   ·exact FU h t ht
theorem FV {S:Sch} (h:(ln S).1=0):FT S:=by
 rw [Im] at h;split at h
 ·rename_i h1;exact (h1 h).elim
 rename_i h1;split at h
 ·rename_i h2;exact (h2 h).elim
 rename_i h2;split at h
 ·rename_i h3;exact (h3 h).elim
 rename_i h3;split at h
 ·rename_i h4;exact (h4 h).elim
 rename_i h4
 exact {
  lat:=sU h1
  l64:=by grind [fK]
  kn:=FP (sU h4)
  ends:=wW h
  wr:=FU (sU h3) }
def JT (t:Ty):Prop:=∃ d m,(wrong t d m).1.1=0
def AY (ai:Int) (p:Ph) (t:Ty):Prop:=(p.bare=true/\ai=8/\sameTy t ct=true/\cW p iV=true)∨(p.bare=false/\(eo p).1=0/\JT t)
structure Sq (h:Hd) (ps:Pts):Prop where
 k1:1<=h.ai
 k9:h.ai<=9
 own:pS h ps=true
 int:h.ai=2->h.lo<=h.hi
 text:h.ai=3->0<=h.most/\h.most<=4096
 enum:h.ai=4->iZ h=(0,0)
 one:h.ai=5∨h.ai=6->∃ p t,ps = .cons p t .nil/\p.name.s=al/\cW p eF=true/\0<=h.most/\h.most<=1024/\JT t
 many:h.ai=7∨h.ai=8->ps.len<=64/\(h.ai=8->ps.len≠0)/\∀ i p t,ps.toList[i]? = some (p,t)->aQ (pNames ps) i p.name=0/\AY h.ai p t
theorem LD {h:Hd} {ps:Pts} (ho:¬ yF (.mk h ps)=false):pS h ps=true:=by
 rw [AG];cases hb:sameTy (.mk h ps) (mask (.mk h ps))
 ·exact absurd hb ho
 ·rfl
theorem jY {ai:Int} {all:List Wd}:∀ {ps:Pts} {i:Nat} {d m:Int},(wrongPts ai all i ps d m).1.1=0->(ai=7∨ai=8)->∀ j p t,ps.toList[j]? = some (p,t)->aQ all (i + j) p.name=0/\AY ai p t
 | .nil,i,d,m,_,_,j,p,t,hx=>by simp [Pts.toList] at hx
 | .cons q u r,i,d,m,he,hk,j,p,t,hx=>by
  simp only [wrongPts] at he;by_cases c0:aQ all i q.name≠0
  ·rw [aj c0] at he;exact absurd he c0
  rw [ah c0] at he;have c0:aQ all i q.name=0:=sU c0
  have step:∀ d' m',(wrongPts ai all (i + 1) r d' m').1.1=0->AY ai q u->aQ all (i + j) p.name=0/\AY ai p t:=by
   intro d' m' h hq
   cases j with
   | zero=>grind [Pts.toList]
   | succ j=>
    simp only [Pts.toList,List.getElem?_cons_succ] at hx;have:=jY h hk j p t hx
    grind
  by_cases c1:q.bare=true
  ·rw [aj c1] at he;by_cases c2:ai=7∨sameTy u ct=false∨cW q iV=false
   ·rw [aj c2] at he;simp at he
   rw [ah c2] at he;refine step d m he (.inl ⟨c1,?_,?_,?_⟩)
   all_goals grind
  ·rw [ah c1] at he;by_cases c2:(eo q).1≠0
   ·rw [aj c2] at he;exact absurd he c2
   rw [ah c2] at he;by_cases c3:(wrong u (d + 1) m).1.1≠0
   ·rw [aj c3] at he;exact absurd he c3
   rw [ah c3] at he;exact step d _ he (.inr ⟨by simpa using c1,by simpa using c2,d + 1,m,by simpa using c3⟩)
theorem FW:∀ {t:Ty},JT t->Sq t.h t.ps
 | .mk h ps,⟨d,m,he⟩=>by
  simp only [Ty.h,Ty.ps];simp only [wrong] at he;by_cases c0:24 < d
  ·rw [aj c0] at he;simp at he
  rw [ah c0] at he;by_cases c1:512 < m + 1
  ·rw [aj c1] at he;simp at he
  rw [ah c1] at he;by_cases c2:h.ai < 1∨9 < h.ai
  ·rw [aj c2] at he;simp at he
  rw [ah c2] at he;by_cases c3:yF (.mk h ps)=false
  ·rw [aj c3] at he;simp at he
  rw [ah c3] at he;by_cases c4:(h.ai=2/\h.hi < h.lo)∨(h.ai=3/\(h.most < 0∨4096 < h.most))
  ·rw [aj c4] at he;simp at he
  rw [ah c4] at he;by_cases c5:h.ai=9/\bG h.name.s=false
  ·rw [aj c5] at he;simp at he
  rw [ah c5] at he;refine { k1:=by omega,k9:=by omega,own:=LD c3,int:=fun h2=>by omega,text:=fun h3=>by omega,enum:=fun h4=>?_,one:=fun h5=>?_,many:=fun h7=>?_ }
  ·rw [aj h4] at he;exact sr h he
  ·rw [ah (by omega),aj h5] at he
   match ps,he with
   | .nil,he=>simp [wrongOne] at he
   | .cons p t (.cons _ _ _),he=>simp [wrongOne] at he
   | .cons p t .nil,he=>
    simp only [wrongOne] at he;by_cases e0:p.name.s≠al∨cW p eF=false
    ·rw [aj e0] at he;simp at he
    rw [ah e0] at he;by_cases e1:h.most < 0∨1024 < h.most
    ·rw [aj e1] at he;simp at he
    rw [ah e1] at he;refine ⟨p,t,rfl,Classical.byContradiction fun hn=>e0 (.inl hn),?_,by omega,by omega,d + 1,_,he⟩
    grind
  ·rw [ah (by omega),ah (by omega),aj h7] at he;by_cases e0:h.ai=8/\ps.len=0
   ·rw [aj e0] at he;simp at he
   rw [ah e0] at he;by_cases e1:64 < ps.len
   ·rw [aj e1] at he;simp at he
   rw [ah e1] at he;refine ⟨by omega,fun h8=>fun hl=>e0 ⟨h8,hl⟩,fun i p t hx=>?_⟩;have:=jY he h7 i p t hx
   rwa [Nat.zero_add] at this
theorem Sq.sub {h:Hd} {ps:Pts} (hF:Sq h ps) {p:Ph} {u:Ty} (hm:(p,u)∈ps.toList) (hb:p.bare=false):JT u:=by
 obtain ⟨i,hi⟩:=List.mem_iff_getElem?.1 hm
 have hlen:0 < ps.len:=by
  cases ps with
  | nil=>simp [Pts.toList] at hm
  | cons _ _ _=>simp [Pts.len]
 have hk:5<=h.ai/\h.ai<=8:=by
  have h1:=hF.own
  grind [pS]
 by_cases h5:h.ai=5∨h.ai=6
 ·obtain ⟨q,t,rfl,_,_,_,_,hw⟩:=hF.one h5
  grind [Pts.toList]
 ·rcases ((hF.many (by omega)).2.2 i p u hi).2 with h1 | h1
  ·rw [h1.1] at hb;cases hb
  ·exact h1.2.2
mutual
theorem xe:∀ (t:Ty),JT t->∀ u∈flatT t,JT u
 | .mk h ps,hw,u,hu=>by
  rw [flatT] at hu;split at hu
  ·cases hu
  ·rcases bX hu with rfl | hu
   ·exact hw
   ·exact xf ps (fun p v hm hb=>(FW hw).sub hm hb) u hu
theorem xf:∀ (ps:Pts),(∀ p v,(p,v)∈ps.toList->p.bare=false->JT v)->∀ u∈flatP ps,JT u
 | .nil,_,u,hu=>by cases hu
 | .cons p v r,hw,u,hu=>by
  rw [flatP] at hu;rcases List.mem_append.1 hu with hu | hu
  ·cases hb:p.bare with
   | true=>rw [hb] at hu;cases hu
   | false=>rw [hb] at hu;exact xe v (hw p v (by simp [Pts.toList]) hb) u hu
  ·exact xf r (fun q w hm=>hw q w (by simp [Pts.toList,hm])) u hu
end
mutual
theorem xg:∀ (t:Ty),∀ u∈flatT t,u.h.ai≠9
 | .mk h ps,u,hu=>by
  rw [flatT] at hu;split at hu
  ·cases hu
  ·rename_i h9;rcases bX hu with rfl | hu
   ·exact h9
   ·exact xi ps u hu
theorem xi:∀ (ps:Pts),∀ u∈flatP ps,u.h.ai≠9
 | .nil,u,hu=>by cases hu
 | .cons p v r,u,hu=>by
  rw [flatP] at hu;rcases List.mem_append.1 hu with hu | hu
  ·split at hu
   ·cases hu
   ·exact xg v u hu
  ·exact xi r u hu
end
mutual
theorem s7:∀ (t:Ty) (j:Nat) (u:Ty),(flatT t)[j]? = some u->j + u.nn<=t.nn
 | .mk h ps,j,u,hu=>by
  rw [flatT] at hu;by_cases h9:h.ai=9
  ·rw [aj h9] at hu;simp at hu
  rw [ah h9] at hu
  cases j with
  | zero=>grind
  | succ j=>
   simp only [List.getElem?_cons_succ] at hu;have:=nA ps j u hu;rw [Ty.nn,ah h9];omega
theorem nA:∀ (ps:Pts) (j:Nat) (u:Ty),(flatP ps)[j]? = some u->j + u.nn<=ps.nn
 | .nil,j,u,hu=>by simp [flatP] at hu
 | .cons p v r,j,u,hu=>by
  rw [flatP] at hu;rw [Pts.nn]
  cases hb:p.bare with
  | true=>
   rw [hb] at hu;have:=nA r j u (sU hu);simp only [if_true];omega
  | false=>
   rw [hb] at hu;simp only [Bool.false_eq_true,if_false] at hu ⊢;by_cases hj:j < (flatT v).length
   ·rw [c9 hj] at hu;have:=s7 v j u hu;omega
   ·rw [List.getElem?_append_right (by omega)] at hu;have:=nA r _ u hu;have h2:=ny v;omega
end
theorem qE {lev:List Wd->Int} {s:Sch}:∀ {ps:Pts} {k:Nat} {e:Ed},e∈edsP lev s ps k->∃ p u k',(p,u)∈ps.toList/\e=Cq lev p (zk s p u k')/\(p.bare=false->k' + u.nn<=k + ps.nn)
 | .nil,k,e,he=>by simp [edsP] at he
 | .cons p u r,k,e,he=>by
  rw [edsP] at he;rcases bX he with rfl | he
  ·grind [Pts.toList,Pts.nn]
  ·obtain ⟨q,v,k',h1,h2,h3⟩:=qE he
   grind [Pts.toList,Pts.nn]
theorem lp {lev:List Wd->Int} {s:Sch}:∀ {ps:Pts} {k:Nat},(edsP lev s ps k).map Ed.name=aw (pNames ps)
 | .nil,k=>rfl
 | .cons p u r,k=>by
  rw [edsP,List.map_cons,lp (ps:=r)];rfl
theorem s8 {f:Nat->Nat->Bool} {n:Nat} (hL:jU f n):∀ e,e<=n->∃ b,b < n/\∀ x,x < e->f b x=true
 | 0,_=>⟨0,hL.pos,fun x hx=>by omega⟩
 | e + 1,he=>by
  obtain ⟨b,hb,jv⟩:=s8 hL e (by omega);obtain ⟨k,hk⟩:=hL.mt b e hb (by omega);obtain ⟨g1,g2,g3,g4⟩:=ll hk;refine ⟨k,g1,fun x hx=>?_⟩;rcases q7 hx with hx | rfl
  ·exact hL.tr k b x g1 hb (by omega) g2 (jv x hx)
  ·exact g3
theorem xj {f:Nat->Nat->Bool} {n:Nat} (hL:jU f n) (l:List Nat) (hl:∀ x∈l,x < n):∃ c,gH f n l=some c:=by
 have key:∀ e,e<=l.length->∃ c,gH f n (l.take e)=some c:=by
  intro e
  induction e with
  | zero=>
   intro _;obtain ⟨b,hb,jv⟩:=s8 hL n (bd _);exact ⟨b,lm hL hb jv⟩
  | succ e ih=>
   intro he;obtain ⟨c,hc⟩:=ih (by omega);obtain ⟨x,hx⟩:∃ x,l[e]? = some x:=⟨_,gE (by omega)⟩;have vD:=hl x (mG hx);obtain ⟨k,hk⟩:=hL.jn c x (np hc) vD;rw [List.take_add_one,hx]
   grind [nX]
 have:=key l.length (bd _)
 rwa [List.take_length] at this
theorem s9 {L:List ByteArray}:∀ {l:List Wd},(labW L l).1=0->∀ w∈l,∃ i,cY L w.s=some i
 | [],_,w,hw=>by cases hw
 | x :: r,h,w,hw=>by
  rw [labW] at h;split at h
  ·cases h
  ·rename_i h1;rcases bX hw with rfl | hw
   ·exact Option.ne_none_iff_exists'.1 h1
   ·exact s9 h w hw
theorem Cz {f:Nat->Nat->Bool} {L:List ByteArray} (hL:jU f L.length) {l:List Wd} (h:(labW L l).1=0):∃ c:Nat,zd f L l=c/\c < L.length:=by
 obtain ⟨c,hc⟩:=xj hL (ux L l) (fun x hx=>by
  unfold ux at hx;obtain ⟨w,hw,rfl⟩:=List.mem_map.1 hx;obtain ⟨i,hi⟩:=s9 h w hw;rw [hi]
  exact (dN hi).1)
 refine ⟨c,?_,np hc⟩;unfold zd;rw [aj h,hc];rfl
structure Sr (L N:Nat) (e:Ed):Prop where
 to0:e.bare=true->e.to = -1
 to1:e.bare=false->∃ k:Nat,e.to=k/\k < N
 lab:∃ k:Nat,e.label=k/\k < L
 seen:∃ k:Nat,e.seen=k/\k < L
 wide:1<=e.wide/\e.wide<=64
 ck:0<=e.ck/\e.ck<=3
 cn:(e.ck=0->e.cn=0)/\(e.ck=1->1<=e.cn)/\(e.ck=2->0<=e.cn/\e.cn<=4096)/\(e.ck=3->e.cn=0)
structure zw (L N:Nat) (n:Nd):Prop where
 k1:1<=n.ai
 k8:n.ai<=8
 Ss:n.ai=2->n.lo<=n.hi
 lo0:n.ai≠2->n.lo=0/\n.hi=0
 OY:n.ai=3->0<=n.most/\n.most<=4096
 JU:n.ai=5->0<=n.most/\n.most<=1024
 OZ:n.ai≠3->n.ai≠5->n.most=0
 af:n.ai=4->n.af ≠ []/\n.af.length<=64/\n.af.Nodup/\∀ s∈n.af,bG s=true
 LF:n.ai≠4->n.af=[]
 leaf:n.ai < 5->n.aR=[]
 one:n.ai=5∨n.ai=6->∃ e,n.aR=[e]/\e.bare=false/\e.name=al
 many:n.ai=7∨n.ai=8->n.aR.length<=64/\(n.ai=8->n.aR ≠ [])/\(n.aR.map Ed.name).Nodup/\∀ e∈n.aR,bG e.name=true
 bare:∀ e∈n.aR,e.bare=true->n.ai=8
 Lm:∀ e∈n.aR,Sr L N e
theorem qF {l:List Wd} (h:∀ j x,l[j]? = some x->aQ l j x=0):(aw l).Nodup/\∀ x∈l,bG x.s=true:=by
 have key:∀ e,e<=l.length->(aw (l.take e)).Nodup:=by
  intro e
  induction e with
  | zero=>intro _;simp [aw]
  | succ e ih=>
   intro he;obtain ⟨x,hx⟩:∃ x,l[e]? = some x:=⟨_,gE (by omega)⟩
   grind [je]
 refine ⟨by have:=key l.length (bd _);rwa [List.take_length] at this,fun x hx=>?_⟩;obtain ⟨j,hj⟩:=List.mem_iff_getElem?.1 hx
 grind [aQ,bG]
theorem td {all:List Wd}:∀ {l:List Wd} {i:Nat},(enumL all i l).1=0->∀ j x,l[j]? = some x->aQ all (i + j) x=0
 | [],i,_,j,x,hx=>by simp at hx
 | y :: r,i,h,j,x,hx=>by
  rw [enumL] at h;split at h
  ·rename_i h1;exact (h1 h).elim
  ·rename_i h1
   cases j with
   | zero=>grind
   | succ j=>
    simp only [List.getElem?_cons_succ] at hx;have:=td h j x hx
    grind
theorem uK {h:Hd} (he:iZ h=(0,0)):h.af ≠ []/\h.af.length<=64/\(aw h.af).Nodup/\∀ x∈h.af,bG x.s=true:=by
 unfold iZ at he;split at he
 ·cases he
 ·rename_i h1;split at he
  ·cases he
  ·rename_i h2;refine ⟨h1,by omega,?_⟩
   exact qF fun j x hx=>by
    have:=td (all:=h.af) (i:=0) (by rw [he]) j x hx
    rwa [Nat.zero_add] at this
theorem AZ {X:Lx} {L:List ByteArray}:∀ {ps:Pts},(knP X L ps).1=0->∀ {p:Ph} {u:Ty},(p,u)∈ps.toList->(X.bad p.label).1=0/\(X.bad p.cl).1=0
 | .nil,_,p,u,h=>by cases h
 | .cons q v r,hk,p,u,h=>by
  have hr:=(nr hk).2;rw [knP] at hk;split at hk
  ·rename_i h1;exact (h1 hk).elim
  rename_i h1;split at hk
  ·rename_i h2;exact (h2 hk).elim
  rename_i h2;rcases bX h with h | h
  ·grind
  ·exact AZ hr h
theorem nB {p q:Ph} (h:cW p q=true):p.bare=q.bare/\p.wide=q.wide/\p.ck=q.ck/\p.cn=q.cn:=by grind [cW]
theorem FX {w:Int} (h:0<=w/\w<=64):1<=n7 w/\n7 w<=64:=by
 unfold n7;split<;>omega
theorem zx {p:Ph} (h:(bn p).1=0):(0<=p.ck/\p.ck<=3)/\(p.ck=0->p.cn=0)/\(p.ck=1->1<=p.cn)/\(p.ck=2->0<=p.cn/\p.cn<=4096)/\(p.ck=3->p.cn=0):=by grind [bn]
theorem CA {p:Ph} (h:(eo p).1=0):(0<=p.wide/\p.wide<=64)/\(bn p).1=0:=by grind [eo,cK]
theorem FY {t:Ty} (h:t.h.ai≠9):1<=t.nn:=by
 obtain ⟨h',ps⟩:=t;have h:¬ h'.ai=9:=h;rw [Ty.nn,ah h];omega
theorem CB {S:Sch} {k:Nat} {x:Wd × Ty} (hx:S.types[k]? = some x):firstA S k + x.2.nn<=qB (kH S):=by
 have h1:=n4 hx;rw [<- h1]
 have h2:firstA S (k + 1)=qB ((qA S).take (k + 1)):=by
  unfold firstA qB qA;rw [<- List.map_take,List.map_map];rfl
 grind [FR,qA,qB,kH,uJ]
theorem xm {lev:List Wd->Int} {s:Sch} {n:Nd}:∀ {l:List Ty} {k i:Nat},(ndsA lev s l k)[i]? = some n->∃ t∈l,∃ u∈flatT t,n=OX lev s u (k + i)/\i + u.nn<=qB l
 | [],k,i,h=>by simp [ndsA] at h
 | t :: r,k,i,h=>by
  rw [ndsA] at h;rw [jX];have hl:=iw lev s t k;by_cases hi:i < t.nn
  ·rw [c9 (by omega),uH,List.getElem?_map,List.getElem?_zipIdx] at h
   cases hu:(flatT t)[i]? with
   | none=>rw [hu] at h;simp at h
   | some u=>
    rw [hu] at h;simp only [Option.map_some,oI] at h;have:=s7 t i u hu;exact ⟨t,List.mem_cons_self,u,mG hu,by rw [<- h];simp,by omega⟩
  ·rw [List.getElem?_append_right (by omega),hl] at h;obtain ⟨t',h1,u,h2,h3,h4⟩:=xm h
   grind
theorem qG (S:Sch):(cu S).length=qB (kH S):=by rw [nz,qC]
theorem CD {S:Sch} (hF:FT S) {i:Nat} {n:Nd} (h:(cu S)[i]? = some n):zw S.ae.length (cu S).length n:=by
 rw [qG];rw [nz] at h;obtain ⟨t,ht,u,hu,rfl,mQ⟩:=xm h;rw [Nat.zero_add];have Uk:=xe t ⟨_,_,hF.wr t ht⟩ u hu;have hk:=wZ t (hF.kn t ht) u hu;have Sa:=xg t u hu;have hT:=FW Uk;obtain ⟨Su,_⟩:=wV hF.lat;have ox:=fy S.ae;have O0:=hF.ends;obtain ⟨uh,us⟩:=u;simp only [Ty.h,Ty.ps] at hT Sa;have PZ:=(qv hk).2;have ed:=hT.own;unfold pS at ed;simp only [aP,Bool.or_eq_true,decide_eq_true_eq] at ed;obtain ⟨⟨⟨⟨o1,o2⟩,o3⟩,o4⟩,o5⟩:=ed;have k1:=hT.k1;have k9:=hT.k9
 have Ls:∀ l:List Wd,(labW (aw S.ae) l).1=0->∃ k:Nat,gI S l=k/\k < S.ae.length:=by
  intro l hl;have:=Cz (f:=gN S.ae.length (fg (aw S.ae) S.order)) (L:=aw S.ae) (by rw [ox];exact Su) hl
  rwa [ox] at this
 have Ug:∀ (p:Ph) (v:Ty) (k':Nat),(p,v)∈us.toList->(p.bare=false->k' + v.nn<=i + 1 + us.nn)->(p.bare=true->zk S p v k' = -1)/\(p.bare=false->∃ k:Nat,zk S p v k'=k/\k < qB (kH S)):=by
  intro p v k' hm jv;refine ⟨fun hb=>by simp [zk,hb],fun hb=>?_⟩;have hkv:=AX PZ hm hb;obtain ⟨vh,vs⟩:=v;by_cases h9:vh.ai=9
  ·obtain ⟨j,hj⟩:=Option.ne_none_iff_exists'.1 ((qv hkv).1 h9);have qY:=(dN hj).1;rw [qm] at qY;obtain ⟨k,hk⟩:=O0 j qY;have mV:=uy hk;obtain ⟨x,hx⟩:∃ x,S.types[k]? = some x:=⟨_,gE mV.1⟩;have h1:=CB hx
   grind [FY,firstA,zk,uC,Ty.h,PX,namedN]
  ·grind [FY,Ty.nn,zk,uC,Ty.h]
 have wK:∀ p v,(p,v)∈us.toList->(0<=p.wide/\p.wide<=64)/\(0<=p.ck/\p.ck<=3)/\((p.ck=0->p.cn=0)/\(p.ck=1->1<=p.cn)/\(p.ck=2->0<=p.cn/\p.cn<=4096)/\(p.ck=3->p.cn=0))/\(p.bare=true->uh.ai=8):=by
  intro p v hm;obtain ⟨j,hj⟩:=List.mem_iff_getElem?.1 hm
  have hlen:us.len≠0:=by
   cases us with
   | nil=>simp [Pts.toList] at hm
   | cons _ _ _=>simp [Pts.len]
  by_cases h5:uh.ai=5∨uh.ai=6
  ·obtain ⟨q,t',rfl,_,u2,_,_,_⟩:=hT.one h5;simp only [Pts.toList,List.mem_singleton,Prod.mk.injEq] at hm;obtain ⟨rfl,rfl⟩:=hm;obtain ⟨w1,w2,w3,w4⟩:=nB u2;have z1:eF.wide=0:=rfl;have z2:eF.ck=0:=rfl;have z3:eF.cn=0:=rfl;have z4:eF.bare=false:=rfl
   grind
  ·obtain ⟨_,hP⟩:=(hT.many (by omega)).2.2 j p v hj;rcases hP with ⟨hb,h8,_,u2⟩ | ⟨hb,hp,_⟩
   ·obtain ⟨w1,w2,w3,w4⟩:=nB u2;have z1:iV.wide=0:=rfl;have z2:iV.ck=0:=rfl;have z3:iV.cn=0:=rfl;omega
   ·obtain ⟨w1,w2⟩:=CA hp;obtain ⟨w3,w4⟩:=zx w2
    grind
 have O1:us.len=0->us = .nil:=fun h=>by
  cases us with
  | nil=>rfl
  | cons _ _ _=>simp [Pts.len] at h
 refine {
  k1:=k1
  k8:=by show uh.ai<=8;omega
  Ss:=hT.int
  lo0:=fun h2=>?_
  OY:=hT.text
  JU:=fun h5=>?_
  OZ:=fun h3 h5=>?_
  af:=fun h4=>?_
  LF:=fun h4=>?_
  leaf:=fun h5=>?_
  one:=fun h5=>?_
  many:=fun h7=>?_
  bare:=fun e he hb=>?_
  Lm:=fun e he=>?_ }
 ·show uh.lo=0/\uh.hi=0;exact o1.resolve_left h2
 ·obtain ⟨q,t',rfl,_,_,q8,iH,_⟩:=hT.one (.inl h5);exact ⟨q8,iH⟩
 ·show uh.most=0;exact o2.resolve_left (fun h=>h.elim h3 h5)
 ·obtain ⟨e1,e2,e3,e4⟩:=uK (hT.enum h4);show aw uh.af ≠ []/\(aw uh.af).length<=64/\(aw uh.af).Nodup/\∀ s∈aw uh.af,bG s=true
  grind [aw,fy]
 ·show aw uh.af=[];have:=o4.resolve_right h4;have:uh.af=[]:=List.eq_nil_of_length_eq_zero this;rw [this];all_goals rfl
 ·show edsP (gI S) S us (i + 1)=[];have Uo:uh.ai < 5:=h5;rw [O1 (o3.resolve_right (by omega))];rfl
 ·show ∃ e,edsP (gI S) S us (i + 1)=[e]/\_;obtain ⟨q,t',rfl,hn,u2,_,_,_⟩:=hT.one h5;refine ⟨Cq (gI S) q (zk S q t' (i + 1)),rfl,?_,hn⟩;exact (nB u2).1
 ·show (edsP (gI S) S us (i + 1)).length<=64/\(_->edsP (gI S) S us (i + 1) ≠ [])/\((edsP (gI S) S us (i + 1)).map Ed.name).Nodup/\∀ e∈edsP (gI S) S us (i + 1),bG e.name=true;obtain ⟨m1,m2,m3⟩:=hT.many h7;have eC:∀ j x,(pNames us)[j]? = some x->aQ (pNames us) j x=0:=by grind [ld,Pts.gB,iY]
  obtain ⟨n1,n2⟩:=qF eC;refine ⟨by rw [mq];exact m1,fun h8 hn=>m2 h8 ?_,by rw [lp];exact n1,fun e he=>?_⟩
  ·grind [mq,gI]
  ·have:e.name∈aw (pNames us):=by rw [<- lp (lev:=gI S) (s:=S) (k:=i + 1)];exact List.mem_map_of_mem he
   grind [aw]
 ·obtain ⟨p,v,k',h1,rfl,_⟩:=qE he;exact (wK p v h1).2.2.2 hb
 ·obtain ⟨p,v,k',h1,rfl,h3⟩:=qE he;obtain ⟨h4,h5⟩:=Ug p v k' h1 h3;obtain ⟨h6,h7,h8,_⟩:=wK p v h1;obtain ⟨h9,qZ⟩:=AZ PZ h1;exact { to0:=h4,to1:=h5,lab:=Ls _ h9,seen:=Ls _ qZ,wide:=FX h6,ck:=h7,cn:=h8 }
theorem xr {lev:List Wd->Int} {s:Sch} {n:Nd}:∀ {l:List Ty} {k:Nat},n∈ndsA lev s l k->∃ t∈l,∃ u∈flatT t,∃ k',n=OX lev s u k'
 | [],_,h=>by cases h
 | t :: r,k,h=>by
  rw [ndsA] at h;rcases List.mem_append.1 h with h | h
  ·grind [uH]
  ·obtain ⟨t',ht,h⟩:=xr h;exact ⟨t',dn _ ht,h⟩
theorem CE {S:Sch} {n:Nd} (h:n∈cu S) (hS:S.wt<=1099511627776):n.af.length<=1099511627776/\n.aR.length<=1099511627776:=by
 rw [nz] at h;obtain ⟨t,ht,u,hu,k,rfl⟩:=xr h;have h1:=Io hS t ht;have h2:=xc t u hu;obtain ⟨uh,us⟩:=u;have h3:=bQ uh.af;have h4:=us.iU
 grind [Ty.wt,Hd.wt,OX,Ty.h,Ty.ps,fy,mq]
abbrev zNd:List DV:=[.v (.int .i64 0),.v (.int .i64 0),.v (.int .i64 0),.v (.int .i64 0),.v (.int .i64 0),.v (.slice none 0 0),.v (.slice none 0 0)]
structure A0 (S:Sch) (ND:List Nd) (PC:List DV):Prop where
 fine:FT S
 wt:S.wt<=1099511627776
 ve:ND=cu S
 ok:∀ n∈ND,zw S.ae.length ND.length n
 nl:ND.length<=1099511627776
 len:bh prog 22 [.pt PC 0] (.v (.int .i64 ND.length))
 root:bh prog 23 [.pt PC 0] (.v (.int .i64 (dm S)))
 ag:∀ (i:Nat) n,ND[i]? = some n->bh prog 38 [.pt PC 0,.v (.int .i64 i)] (.cj [.agg (n5 n),.v (.bool true)])
 JV:∀ i:Int,(i < 0∨ND.length<=i)->bh prog 38 [.pt PC 0,.v (.int .i64 i)] (.cj [.agg zNd,.v (.bool false)])
 lat:∃ ay js,(uE S ay js).OK/\bh prog 45 [.pt PC 0] (uE S ay js).pd
theorem FZ {S:Sch} {d:DV} (hS:S.wt<=1099511627776) (h0:(ln S).1=0) (hd:FC S d):∃ PC,d = .pt PC 0/\A0 S (cu S) PC:=by
 obtain ⟨ay,ib,js,hX,hT,gM,rfl⟩:=hd;have hF:=FV h0;have cf:=fun n (h:n∈cu S)=>CE h hS
 refine ⟨_,rfl,{
  fine:=hF
  wt:=hS
  ve:=rfl
  ok:=fun n hn=>?_
  nl:=by rw [qG];exact Nat.le_trans (LC S) hS
  len:=nv _ _ _ _ _ _
  root:=zq _ _ _ _ _ _
  ag:=fun i n h=>zr _ _ _ _ _ _ i n h (cf n (mG h)).1 (cf n (mG h)).2
  JV:=fun i h=>zt _ _ _ _ _ _ i h
  lat:=⟨ay,js,hX,Cw _ _ _ _ _ _⟩ }⟩
 obtain ⟨i,hi⟩:=List.mem_iff_getElem?.1 hn;exact CD hF hi
def zy (S:Sch) (r:DV):Prop:=((ln S).1≠0/\r = .cj [.v (.pointer none),(ln S).d])∨((ln S).1=0/\∃ PC,A0 S (cu S) PC/\r = .cj [.pt PC 0,Ft.d (0,0)])
theorem tf {S:Sch} (hS:S.wt<=1099511627776) {r:DV} {os:List (List DV)} {tk:List TkE} (h:zp S r os tk):zy S r:=by
 unfold zp at h;by_cases h0:(ln S).1=0
 ·rw [ah (by rw [h0];simp)] at h;obtain ⟨d,hd,rfl⟩:=h;obtain ⟨PC,rfl,hP⟩:=FZ hS h0 hd;exact .inr ⟨h0,PC,hP,rfl⟩
 ·rw [aj h0] at h;exact .inl ⟨h0,h⟩
inductive Val where
 | mk (k n:Int) (s:ByteArray) (ks:List Val)
def Val.k:Val->Int | .mk k _ _ _=>k
def Val.n:Val->Int | .mk _ n _ _=>n
def Val.s:Val->ByteArray | .mk _ _ s _=>s
def Val.ks:Val->List Val | .mk _ _ _ ks=>ks
mutual
def lr:Val->List DV
 | .mk k n s ks=>[.v (.int .i64 k),.v (.int .i64 n),.v (.string s),.sl 4 (dVals ks) none]
def dVals:List Val->List (List DV)
 | []=>[]
 | v :: r=>lr v :: dVals r
end
theorem ez:∀ l:List Val,dVals l=l.map lr
 | []=>rfl
 | v :: r=>by rw [dVals,ez r];all_goals rfl
theorem iy (l:List Val):(dVals l).length=l.length:=by rw [ez,List.length_map]
theorem tg {l:List Val} {e:Nat} {x:Val} (h:l[e]? = some x):(dVals l)[e]? = some (lr x):=by rw [ez,List.getElem?_map,h];all_goals rfl
mutual
def Val.wt:Val->Nat
 | .mk _ _ s ks=>64 + s.size + eD ks
def eD:List Val->Nat
 | []=>0
 | v :: r=>v.wt + eD r
end
theorem Val.gA:∀ v:Val,64<=v.wt
 | .mk _ _ _ _=>by rw [Val.wt];omega
theorem xu:∀ {l:List Val} {x:Val},x∈l->x.wt<=eD l
 | v :: r,x,h=>by
  rcases bX h with rfl | h
  ·rw [eD];omega
  ·have:=xu h;rw [eD];omega
theorem xx:∀ l:List Val,64 * l.length<=eD l
 | []=>bd _
 | v :: r=>by
  have:=xx r;have:=v.gA;rw [eD,List.length_cons];omega
theorem nC {α:Type} {l:List α} {e:Nat} {x:α} (h:l[e]? = some x):l.take (e + 1)=l.take e ++ [x]:=by rw [List.take_add_one,h];all_goals rfl
def n8 (n:Nd) (v:Val):Bool:=
 if 0 < v.ks.length∨(v.k≠3/\v.s≠al)∨(v.k=3/\v.n≠0) then false
 else if n.ai=1 then decide (v.k=1) && (decide (v.n=0) || decide (v.n=1))
 else if n.ai=2 then decide (v.k=2) && decide (n.lo<=v.n) && decide (v.n<=n.hi)
 else if n.ai=3 then decide (v.k=3) && decide ((v.s.size:Int)<=n.most)
 else decide (v.k=4) && decide (0<=v.n) && decide (v.n < n.af.length)
def jh (v:Val):Bool:=decide (v.s=al) && (decide (v.n=0) || decide (v.k=8))
def to0 (n:Nd):Int:=match n.aR[0]? with | some e=>e.to | none=>0
def xy (n:Nd) (v:Val):Option Ed:=if v.k=8/\0<=v.n/\v.n < n.aR.length then n.aR[v.n.toNat]? else none
def kidsL (n:Nd) (v:Val):List Int:=
 if n.ai=5∨n.ai=6 then List.replicate v.ks.length (to0 n)
 else if n.ai=7 then n.aR.map Ed.to
 else match xy n v with | none=>[] | some e=>if e.bare=true then [] else [e.to]
def jZ (n:Nd) (v:Val):Bool:=
 if n.ai=5∨n.ai=6 then jh v && decide (v.k=n.ai) && decide ((v.ks.length:Int)<=if n.ai=6 then 1 else n.most)
 else if n.ai=7 then jh v && decide (v.k=7) && decide (n.aR.length=v.ks.length)
 else match xy n v with | none=>false | some _=>jh v && decide ((kidsL n v).length=v.ks.length)
def gT (ND:List Nd) (i:Int):Option Nd:=if i < 0 then none else ND[i.toNat]?
mutual
def fitV (ND:List Nd):Val->Int->Bool
 | .mk k n s ks,i=>match gT ND i with
  | none=>false
  | some d=>if d.ai < 5 then n8 d (.mk k n s ks) else jZ d (.mk k n s ks) && fitVs ND ks (kidsL d (.mk k n s ks))
def fitVs (ND:List Nd):List Val->List Int->Bool
 | v :: r,i :: l=>fitV ND v i && fitVs ND r l
 | _,_=>true
end
theorem CF {n:Nd} {v:Val} (hk:5<=n.ai) (h:jZ n v=true):(kidsL n v).length=v.ks.length:=by grind [jZ,kidsL,xy]
theorem ji {ND:List Nd} {i:Int} {d:Nd} (h:gT ND i=some d):0<=i/\ND[i.toNat]? = some d:=by grind [gT]
theorem zA {ND:List Nd} {i:Int} (h:gT ND i=none):i < 0∨(ND.length:Int)<=i:=by grind [gT]
inductive Rw where
 | mk (k cF n:Int) (s:ByteArray) (keys:List Wd) (ks:List Rw)
mutual
def dRw:Rw->List DV
 | .mk k a n s keys ks=>[.v (.int .i64 k),.v (.int .i64 a),.v (.int .i64 n),.v (.string s),.sl 2 (bf keys) none,.sl 6 (dRws ks) none]
def dRws:List Rw->List (List DV)
 | []=>[]
 | v :: r=>dRw v :: dRws r
end
theorem dR:∀ l:List Rw,dRws l=l.map dRw
 | []=>rfl
 | v :: r=>by rw [dRws,dR r];all_goals rfl
theorem fB (l:List Rw):(dRws l).length=l.length:=by rw [dR,List.length_map]
theorem j1 {l:List Rw} {e:Nat} {x:Rw} (h:l[e]? = some x):(dRws l)[e]? = some (dRw x):=by rw [dR,List.getElem?_map,h];all_goals rfl
theorem nD (l:List Rw) (x:Rw):dRws l ++ [dRw x]=dRws (l ++ [x]):=by rw [dR,dR];simp
mutual
def jj:Rw->Nat
 | .mk _ _ _ _ _ ks=>1 + fQ ks
def fQ:List Rw->Nat
 | []=>0
 | v :: r=>jj v + fQ r
end
theorem mv:∀ r:Rw,1<=jj r
 | .mk _ _ _ _ _ _=>by rw [jj];omega
theorem iz:∀ {l:List Rw} {x:Rw},x∈l->jj x<=fQ l
 | v :: r,x,h=>by
  rcases bX h with rfl | h
  ·rw [fQ];omega
  ·have:=iz h;rw [fQ];omega
def n9:ByteArray:=⟨#[116,114,117,101]⟩
def uL:ByteArray:=⟨#[102,97,108,115,101]⟩
def xz:ByteArray:=⟨#[115,111,109,101]⟩
def qH:ByteArray:=⟨#[110,111,110,101]⟩
structure Sv (ND:List Nd) (v:Val) (i:Int) (d:Nd):Prop where
 ag:gT ND i=some d
 k:v.k=d.ai
 leaf:d.ai < 5->v.ks=[]
 enum:d.ai=4->0<=v.n/\v.n < d.af.length
 kids:5<=d.ai->(kidsL d v).length=v.ks.length/\fitVs ND v.ks (kidsL d v)=true
 tag:d.ai=8->∃ e,xy d v=some e/\d.aR[v.n.toNat]? = some e/\0<=v.n/\v.n < d.aR.length/\(e.bare=true↔v.ks=[])
 opt:d.ai=6->v.ks.length<=1
theorem CG {L:Nat} {ND:List Nd} (fM:∀ n∈ND,zw L ND.length n) {v:Val} {i:Int} (h:fitV ND v i=true):∃ d,Sv ND v i d:=by
 obtain ⟨k,n,s,ks⟩:=v;rw [fitV] at h
 cases hd:gT ND i with
 | none=>rw [hd] at h;cases h
 | some d=>
  rw [hd] at h;simp only at h;have hN:=fM d (mG (ji hd).2);have gL:=hN.k1;have Up:=hN.k8;by_cases h5:d.ai < 5
  ·rw [aj h5] at h;unfold n8 at h;by_cases hc:0 < (Val.mk k n s ks).ks.length∨((Val.mk k n s ks).k≠3/\(Val.mk k n s ks).s≠al)∨((Val.mk k n s ks).k=3/\(Val.mk k n s ks).n≠0)
   ·rw [aj hc] at h;cases h
   rw [ah hc] at h;have Sw:ks=[]:=by grind [Val.ks]
   have hk:k=d.ai/\(d.ai=4->0<=n/\n < d.af.length):=by grind [Val.k,Val.n]
   exact ⟨d,{ ag:=hd,k:=hk.1,leaf:=fun _=>Sw,enum:=hk.2,kids:=fun h=>by omega,tag:=fun h=>by omega,opt:=fun h=>by omega }⟩
  ·rw [ah h5,aP] at h;obtain ⟨hB,hf⟩:=h;have hlen:=CF (by omega) hB;have hB2:=hB;unfold jZ at hB;by_cases c:d.ai=5∨d.ai=6
   ·rw [aj c] at hB;simp only [aP,decide_eq_true_eq] at hB;exact ⟨d,{ ag:=hd,k:=hB.1.2,leaf:=fun h=>by omega,enum:=fun h=>by omega,kids:=fun _=>⟨hlen,hf⟩,tag:=fun h=>by omega,opt:=fun h=>by have:=hB.2;rw [aj h] at this;omega }⟩
   rw [ah c] at hB;by_cases c7:d.ai=7
   ·rw [aj c7] at hB;simp only [aP,decide_eq_true_eq] at hB;exact ⟨d,{ ag:=hd,k:=by rw [c7];exact hB.1.2,leaf:=fun h=>by omega,enum:=fun h=>by omega,kids:=fun _=>⟨hlen,hf⟩,tag:=fun h=>by omega,opt:=fun h=>by omega }⟩
   rw [ah c7] at hB
   cases ht:xy d (.mk k n s ks) with
   | none=>rw [ht] at hB;cases hB
   | some e=>
    have yY:=ht;unfold xy at yY;split at yY
    ·rename_i hr;have mV:kidsL d (.mk k n s ks)=if e.bare=true then [] else [e.to]:=by unfold kidsL;rw [ah c,ah c7,ht]
     refine ⟨d,{ ag:=hd,k:=by have:=hr.1;omega,leaf:=fun h=>by omega,enum:=fun h=>by omega,kids:=fun _=>⟨hlen,hf⟩,tag:=fun _=>⟨e,ht,yY,hr.2.1,hr.2.2,?_⟩,opt:=fun h=>by omega }⟩
     grind
    ·cases yY
abbrev zB:=Val × Int × Int
def jz (v:Val):zB:=(v,0,0)
def bS (e a:Int):zB:=(.mk 0 0 al [],e,a)
def ckLeaf (d:Nd) (k a n:Int) (s:ByteArray):zB:=
 if d.ai=1 then (if k=1/\s=n9 then jz (.mk 1 1 al []) else if k=1/\s=uL then jz (.mk 1 0 al []) else bS 14 a)
 else if d.ai=2 then (if k≠2 then bS 14 a else if n < d.lo∨d.hi < n then bS 20 a else jz (.mk 2 n al []))
 else if d.ai=3 then (if k≠3 then bS 14 a else if d.most < (s.size:Int) then bS 20 a else jz (.mk 3 0 s []))
 else if k≠1 then bS 14 a else match cY d.af s with | none=>bS 9 a | some i=>jz (.mk 4 i al [])
def mF (d:Nd) (s:ByteArray):Option Nat:=cY (d.aR.map Ed.name) s
def oC (d:Nd) (c:Nat):Int:=match d.aR[c]? with | some e=>e.to | none=>0
def eM (k n:Int) (t:List Val × Int × Int):zB:=if t.2.1≠0 then (.mk 0 0 al [],t.2) else jz (.mk k n al t.1)
def fC (a:Int) (t:List (Option Val) × Int × Int):zB:=if t.2.1≠0 then (.mk 0 0 al [],t.2) else if t.1.any Option.isNone=true then bS 15 a else jz (.mk 7 0 al (t.1.map fun x=>x.getD (.mk 0 0 al [])))
mutual
def ckV (ND:List Nd):Rw->Int->zB
 | .mk k a n s keys ks,i=>match gT ND i with
  | none=>bS 1 0
  | some d=>
   if d.ai < 5 then ckLeaf d k a n s
   else if d.ai=5 then (if k≠4 then bS 14 a else if d.most < (ks.length:Int) then bS 20 a else eM 5 0 (ckL ND ks (oC d 0) []))
   else if d.ai=6 then (if k=1/\s=qH then jz (.mk 6 0 al []) else if k≠6∨ks.length≠1∨s≠xz then bS 14 a else eM 6 0 (ckL ND ks (oC d 0) []))
   else if d.ai=7 then (if k≠5∨keys.length≠ks.length then bS 14 a else fC a (ckK ND d ks keys (List.replicate d.aR.length none)))
   else if k≠1/\(k≠6∨ks.length≠1) then bS 14 a
   else match mF d s with
    | none=>bS 9 a
    | some c=>match d.aR[c]? with
     | none=>bS 9 a
     | some e=>if k=1 then (if e.bare=true then jz (.mk 8 c al []) else bS 15 a) else if e.bare=true then bS 19 a else eM 8 c (ckL ND ks e.to [])
def ckL (ND:List Nd):List Rw->Int->List Val->List Val × Int × Int
 | [],_,acc=>(acc,0,0)
 | r :: l,i,acc=>if (ckV ND r i).2.1≠0 then ([],(ckV ND r i).2) else ckL ND l i (acc ++ [(ckV ND r i).1])
def ckK (ND:List Nd) (d:Nd):List Rw->List Wd->List (Option Val)->List (Option Val) × Int × Int
 | r :: l,w :: ws,acc=>match mF d w.s with
  | none=>([],9,w.a)
  | some c=>if (acc.getD c none).isSome=true then ([],10,w.a) else if (ckV ND r (oC d c)).2.1≠0 then ([],(ckV ND r (oC d c)).2) else ckK ND d l ws (acc.set c (some (ckV ND r (oC d c)).1))
 | _,_,acc=>(acc,0,0)
end
theorem qI {ND:List Nd}:∀ {l:List Rw} {i:Int} {acc:List Val},(ckL ND l i acc).2.1=0->(∀ r∈l,(ckV ND r i).2.1=0)/\(ckL ND l i acc)=(acc ++ l.map fun r=>(ckV ND r i).1,0,0)
 | [],i,acc,_=>⟨fun r hr=>(by cases hr),by simp [ckL]⟩
 | r :: l,i,acc,h=>by
  rw [ckL] at h ⊢;split at h
  ·rename_i h1;exact (h1 h).elim
  ·rename_i h1;rw [ah h1];obtain ⟨h2,h3⟩:=qI h
   grind
theorem zC {ND:List Nd}:∀ {l:List Rw} {i:Int} {acc:List Val},(∀ r∈l,(ckV ND r i).2.1=0)->ckL ND l i acc=(acc ++ l.map fun r=>(ckV ND r i).1,0,0)
 | [],i,acc,_=>by simp [ckL]
 | r :: l,i,acc,h=>by
  rw [ckL,ah (by rw [h r List.mem_cons_self];simp),zC fun x hx=>h x (dn _ hx)];simp
def F0 (ND:List Nd) (d:Nd) (acc:List (Option Val)):Prop:=acc.length=d.aR.length/\∀ (c:Nat) v,acc[c]? = some (some v)->fitV ND v (oC d c)=true
theorem j2 {d:Nd} {s:ByteArray} {c:Nat} (h:mF d s=some c):∃ e,d.aR[c]? = some e/\e.name=s:=by
 obtain ⟨_,h2,_⟩:=dN h
 grind
theorem xA {ND:List Nd} {d:Nd}:∀ {l:List Rw} {ws:List Wd} {acc:List (Option Val)},(∀ r∈l,∀ i,(ckV ND r i).2.1=0->fitV ND (ckV ND r i).1 i=true)->F0 ND d acc->(ckK ND d l ws acc).2.1=0->F0 ND d (ckK ND d l ws acc).1
 | [],ws,acc,_,hF,_=>by rw [ckK];exact hF;simp
 | r :: l,[],acc,_,hF,_=>by rw [ckK];exact hF;simp
 | r :: l,w :: ws,acc,ih,hF,h=>by
  rw [ckK] at h ⊢
  cases hc:mF d w.s with
  | none=>rw [hc] at h;simp at h
  | some c=>
   rw [hc] at h;simp only at h ⊢;split at h
   ·simp at h
   ·rename_i h1;rw [ah h1];split at h
    ·rename_i h2;exact (h2 h).elim
    ·rename_i h2;rw [ah h2];refine xA (fun x hx=>ih x (dn _ hx)) ⟨by rw [List.length_set];exact hF.1,fun c' v hv=>?_⟩ h;obtain ⟨e,he,_⟩:=j2 hc;have cC:=(gS he).1;by_cases nN:c'=c
     ·grind
     ·rw [List.getElem?_set_ne (fun h=>nN h.symm)] at hv;exact hF.2 c' v hv
theorem mw {ND:List Nd} {i:Int}:∀ {l:List Val},(∀ v∈l,fitV ND v i=true)->fitVs ND l (List.replicate l.length i)=true
 | [],_=>rfl
 | v :: r,h=>by
  rw [List.length_cons,List.replicate_succ,fitVs,h v List.mem_cons_self,Bool.true_and];exact mw fun x hx=>h x (dn _ hx)
theorem ti {ND:List Nd}:∀ {l:List Val} {is:List Int},(∀ (e:Nat) v i,l[e]? = some v->is[e]? = some i->fitV ND v i=true)->fitVs ND l is=true
 | [],is,_=>by cases is<;>rfl
 | v :: r,[],_=>rfl
 | v :: r,i :: is,h=>by
  rw [fitVs,h 0 v i rfl rfl,Bool.true_and];exact ti fun e x j hx hj=>h (e + 1) x j (sU hx) (sU hj)
theorem nE {d:Nd} {s:ByteArray} {c:Nat} (h:mF d s=some c):c < d.aR.length:=by grind [j2]
theorem A1 {L:Nat} {ND:List Nd} (fM:∀ n∈ND,zw L ND.length n):∀ (m:Nat) (r:Rw),jj r<=m->∀ i,(ckV ND r i).2.1=0->fitV ND (ckV ND r i).1 i=true
 | 0,r,h=>by have:=mv r;omega
 | m + 1,.mk k a n s keys ks,h=>fun i h0=>by
  have ih:∀ r∈ks,∀ i,(ckV ND r i).2.1=0->fitV ND (ckV ND r i).1 i=true:=fun r hr=>A1 fM m r (by have:=iz hr;rw [jj] at h;omega);rw [ckV] at h0 ⊢
  cases hd:gT ND i with
  | none=>rw [hd] at h0;simp [bS] at h0
  | some d=>
   rw [hd] at h0;simp only at h0 ⊢;have hN:=fM d (mG (ji hd).2);have gL:=hN.k1;have Up:=hN.k8;by_cases h5:d.ai < 5
   ·rw [aj h5] at h0 ⊢
    have oa:∀ v:Val,n8 d v=true->fitV ND v i=true:=fun v hv=>by
     obtain ⟨vk,vn,vs,vks⟩:=v;rw [fitV,hd];simp only;rw [aj h5];exact hv
    refine oa _ ?_;unfold ckLeaf at h0 ⊢;have he:(ByteArray.size al)=0:=rfl;rcases (show d.ai=1∨d.ai=2∨d.ai=3∨d.ai=4 by omega) with c | c | c | c
    ·have aY:¬ uL=n9:=by decide
     simp only [c,if_true] at h0 ⊢
     repeat' split at h0
     all_goals first | (simp [bS] at h0;done) | (rename_i h1 h2;simp [h1,h2,aY,jz,n8,c,Val.ks,Val.k,Val.s,Val.n];done) | (rename_i h1;simp [h1,jz,n8,c,Val.ks,Val.k,Val.s,Val.n])
    ·simp only [c,show ¬ ((2:Int)=1) by decide,if_true,if_false] at h0 ⊢
     repeat' split at h0
     ·simp [bS] at h0
     ·simp [bS] at h0
     ·rename_i h1 h2;rw [ah h1,ah h2];simp [jz,n8,c,Val.ks,Val.k,Val.s,Val.n]
      first | exact ⟨decide_eq_true (by omega),decide_eq_true (by omega)⟩ | exact decide_eq_true (by omega)
    ·simp only [c,show ¬ ((3:Int)=1) by decide,show ¬ ((3:Int)=2) by decide,if_true,if_false] at h0 ⊢
     repeat' split at h0
     ·simp [bS] at h0
     ·simp [bS] at h0
     ·rename_i h1 h2;rw [ah h1,ah h2];simp [jz,n8,c,Val.ks,Val.k,Val.s,Val.n]
      first | exact ⟨decide_eq_true (by omega),decide_eq_true (by omega)⟩ | exact decide_eq_true (by omega)
    ·simp only [c,show ¬ ((4:Int)=1) by decide,show ¬ ((4:Int)=2) by decide,show ¬ ((4:Int)=3) by decide,if_false] at h0 ⊢;split at h0
     ·simp [bS] at h0
     ·rename_i h1;rw [ah h1]
      cases hx:cY d.af s with
      | none=>rw [hx] at h0;simp [bS] at h0
      | some j=>
       have:=(dN hx).1;simp [jz,n8,c,Val.ks,Val.k,Val.s,Val.n];omega
   rw [ah h5] at h0 ⊢
   have oa:∀ v:Val,jZ d v=true->fitVs ND v.ks (kidsL d v)=true->fitV ND v i=true:=fun v hv Da=>by
    obtain ⟨vk,vn,vs,vks⟩:=v;rw [fitV,hd];simp only;rw [ah h5,hv,Bool.true_and];exact Da
   have LG:∀ (kk nn:Int) (ii:Int),(eM kk nn (ckL ND ks ii [])).2.1=0->eM kk nn (ckL ND ks ii [])=jz (.mk kk nn al (ks.map fun r=>(ckV ND r ii).1))/\∀ v∈(ks.map fun r=>(ckV ND r ii).1),fitV ND v ii=true:=fun kk nn ii hh=>by
    unfold eM at hh ⊢;split at hh
    ·rename_i h1;exact (h1 hh).elim
    ·rename_i h1;obtain ⟨h2,h3⟩:=qI (Decidable.not_not.1 h1);rw [ah h1,h3,List.nil_append];refine ⟨rfl,fun v hv=>?_⟩;obtain ⟨r,hr,rfl⟩:=List.mem_map.1 hv;exact ih r hr ii (h2 r hr)
   by_cases c5:d.ai=5
   ·rw [aj c5] at h0 ⊢;split at h0
    ·simp [bS] at h0
    ·rename_i h1;rw [ah h1];split at h0
     ·simp [bS] at h0
     ·rename_i h2;rw [ah h2];obtain ⟨h3,h4⟩:=LG _ _ _ h0;rw [h3];refine oa _ ?_ ?_
      ·simp [jz,jZ,c5,jh,Val.ks,Val.k,Val.s,Val.n];omega
      ·simp only [jz,kidsL,c5,true_or,if_true,Val.ks];exact mw h4
   rw [ah c5] at h0 ⊢;by_cases c6:d.ai=6
   ·rw [aj c6] at h0 ⊢;split at h0
    ·rename_i h1;rw [aj h1];refine oa _ ?_ ?_
     ·simp [jz,jZ,c6,jh,Val.ks,Val.k,Val.s,Val.n]
     ·simp [jz,kidsL,c6,Val.ks,fitVs]
    ·rename_i h1;rw [ah h1];split at h0
     ·simp [bS] at h0
     ·rename_i h2;rw [ah h2];obtain ⟨h3,h4⟩:=LG _ _ _ h0;rw [h3];refine oa _ ?_ ?_
      ·simp [jz,jZ,c6,jh,Val.ks,Val.k,Val.s,Val.n];omega
      ·simp only [jz,kidsL,c6,or_true,if_true,Val.ks];exact mw h4
   rw [ah c6] at h0 ⊢;by_cases c7:d.ai=7
   ·rw [aj c7] at h0 ⊢;split at h0
    ·simp [bS] at h0
    ·rename_i h1;rw [ah h1];unfold fC at h0 ⊢;split at h0
     ·rename_i h2;exact (h2 h0).elim
     ·rename_i h2;rw [ah h2];split at h0
      ·simp [bS] at h0
      ·rename_i h3;rw [ah h3]
       have hF:=xA (ws:=keys) ih (acc:=List.replicate d.aR.length none) ⟨List.length_replicate,fun c v hv=>by
        rw [List.getElem?_replicate] at hv
        split at hv<;>simp at hv⟩ (Decidable.not_not.1 h2)
       generalize (ckK ND d ks keys (List.replicate d.aR.length none)).1=T at hF h3 ⊢;refine oa _ ?_ ?_
       ·simp [jz,jZ,c7,jh,Val.ks,Val.k,Val.s,Val.n,hF.1]
       ·simp only [jz,kidsL,c7,show ¬ ((7:Int)=5∨(7:Int)=6) by decide,if_true,if_false,Val.ks];refine ti fun e v j hv hj=>?_;rw [List.getElem?_map] at hv hj
        cases ht:T[e]? with
        | none=>rw [ht] at hv;cases hv
        | some o=>
         rw [ht] at hv
         cases o with
         | none=>exact (h3 (List.any_eq_true.2 ⟨none,mG ht,rfl⟩)).elim
         | some v'=>
          cases hv
          cases he:d.aR[e]? with
          | none=>rw [he] at hj;cases hj
          | some x=>
           rw [he] at hj;cases hj;have:=hF.2 e v' ht;unfold oC at this;rw [he] at this;exact this
   rw [ah c7] at h0 ⊢;have c8:d.ai=8:=by omega
   split at h0
   ·simp [bS] at h0
   ·rename_i h1;rw [ah h1]
    cases hc:mF d s with
    | none=>rw [hc] at h0;simp [bS] at h0
    | some c=>
     rw [hc] at h0;simp only at h0 ⊢;obtain ⟨e,he,_⟩:=j2 hc;have cC:=nE hc;rw [he] at h0;simp only [he] at h0 ⊢
     have Ip:∀ l,xy d (.mk 8 c al l)=some e:=fun l=>by
      unfold xy;rw [aj ⟨rfl,by simp [Val.n],by simpa [Val.n] using cC⟩];exact he
     split at h0
     ·rename_i h2;rw [aj h2];split at h0
      ·rename_i h3;rw [aj h3];refine oa _ ?_ ?_
       ·simp [jz,jZ,kidsL,c8,Ip,h3,jh,Val.ks,Val.k,Val.s,Val.n]
       ·simp [jz,kidsL,c8,Ip,h3,Val.ks,fitVs]
      ·simp [bS] at h0
     ·rename_i h2;rw [ah h2];split at h0
      ·simp [bS] at h0
      ·rename_i h3;rw [ah h3];obtain ⟨h4,F1⟩:=LG _ _ _ h0;rw [h4];have h6:ks.length=1:=Decidable.byContradiction fun h7=>h1 ⟨h2,.inr h7⟩;have h3:e.bare=false:=sU h3;refine oa _ ?_ ?_
       ·simp [jz,jZ,kidsL,c8,Ip,h3,jh,Val.ks,Val.k,Val.s,Val.n,h6]
       ·simp only [jz,kidsL,c8,Ip,h3,show ¬ ((8:Int)=5∨(8:Int)=6) by decide,show ¬ ((8:Int)=7) by decide,if_false,Val.ks,Bool.false_eq_true];have:=mw F1;rw [List.length_map,h6] at this;exact this
structure Bu where
 k:Int
 n:Int
 s:ByteArray
def tj (es:List Ed) (s:ByteArray) (k:Nat):Bool:=match es[k]? with | some e=>decide (e.name=s) | none=>false
end Go.Proofs.YtfdedoiiahbnnaaGreat
namespace Go.Proofs.YtfdedoiiahbnnaaGreat
namespace Dv
open Go Go.RowKit
section
variable {P:Program} {ops:Array Oper} {C:World->Prop} {Q:Act->World->Prop} {W:Nat->Bool} {x:Nat}
end
section
variable {X:Ctx} {D:Dw} {x:Nat} {tail:List Nat} {π:Nat->Nat}
theorem my {s S:St} (h:cp s S:=by refine ⟨rfl,rfl,?_⟩;repeat' (first | exact trivial | refine ⟨rfl,?_⟩)):s=S∨cp s S:=.inr h
end
end Dv
end Go.Proofs.YtfdedoiiahbnnaaGreat
namespace Go.Proofs.YtfdedoiiahbnnaaGreat
namespace Dv
open Go Go.RowKit
inductive dg
 | fin
 | op (i:Nat) (t:dg)
 | ev (i:Nat) (t alt:dg)
 | stop
section
variable {P:Program} {ops:Array Oper} {C:World->Prop} {Q:Act->World->Prop} {W:Nat->Bool}
def rdy (ops:Array Oper) (rem:List Nat) (i:Nat):Bool:=
 match ops[i]? with
 | some o=>o.after.toList.all fun e=>!Region.binds .any e || !rem.contains e.on
 | none=>false
def A2 (ops:Array Oper) (i:Nat):Bool:=match ops[i]? with | some o=>isE o.op | none=>false
def chkA (ops:Array Oper):dg->List Nat->Option (List Nat)->Bool
 | .fin,rem,m=>m.isNone && rem.isEmpty
 | .op i t,rem,m=>m.isNone && (rem.contains i && (!A2 ops i && (rdy ops rem i && chkA ops t (rem.erase i) none)))
 | .ev i t alt,rem,m=>rem.contains i && (A2 ops i && (rdy ops rem i && (chkA ops t (rem.erase i) none && chkA ops alt rem (some (i :: m.getD [])))))
 | .stop,rem,m=>match m with
  | some seen=>rem.all fun j=>!rdy ops rem j || seen.contains j
  | none=>false
def xB (ops:Array Oper) (W:Nat->Bool):Bool:=
 (List.range ops.size).all fun i=>(List.range ops.size).all fun j=>
  Nat.beq i j || ordB ops ops.size i j || ordB ops ops.size j i || (A2 ops i && A2 ops j) || (ik ops W j i && ik ops W i j)
def runS (P:Program) (ops:Array Oper) (W:Nat->Bool) (C:World->Prop) (Q:Act->World->Prop):dg->Act->World->Prop
 | .fin,a,w=>Q a w
 | .op i t,a,w=>∃ o,ops[i]? = some o/\∃ v,Yl P ops C o v a/\(isL o.op=true->C w)/\runS P ops W C Q t (a.put o.dst v) w
 | .ev i t alt,a,w=>(∃ o,ops[i]? = some o/\cd P ops o a w fun a' w'=>(W i=false->C w->C w')/\runS P ops W C Q t a' w')/\runS P ops W C Q alt a w
 | .stop,_,_=>True
def Iq (P:Program) (ops:Array Oper) (W:Nat->Bool) (C:World->Prop) (Q:Act->World->Prop) (rem:List Nat) (a:Act) (w:World):Prop:=∃ T,chkA ops T rem none=true/\runS P ops W C Q T a w
def Cl (ops:Array Oper) (rem:List Nat):Prop:=∀ (k:Nat) o,ops[k]? = some o->k ∉ rem->∀ e∈o.after,Region.binds .any e=true->e.on ∉ rem
theorem dT {rem:List Nat} {i:Nat} (h:rdy ops rem i=true):∃ o,ops[i]? = some o/\∀ e∈o.after,Region.binds .any e=true->e.on ∉ rem:=by grind [rdy]
theorem eA {rem:List Nat} {i j:Nat} (h:rdy ops rem i=true):rdy ops (rem.erase j) i=true:=by grind [dT,rdy]
theorem iA {rem:List Nat} (hn:rem.Nodup) (hc:Cl ops rem) {i:Nat} (h:rdy ops rem i=true):Cl ops (rem.erase i):=by
 intro k o ho hk e he hb hm;have iE:=List.mem_of_mem_erase hm;by_cases lO:k=i
 ·grind [dT]
 ·exact hc k o ho (fun hkm=>hk ((List.mem_erase_of_ne lO).2 hkm)) e he hb iE
theorem zD {rem:List Nat} (hc:Cl ops rem):∀ (n:Nat) (j k:Nat) o,ops[k]? = some o->(∀ e∈o.after,Region.binds .any e=true->e.on ∉ rem)->ordB ops n j k=true->j ∉ rem
 | 0,j,k,o,_,_,h=>by simp [ordB] at h
 | n + 1,j,k,o,ho,eC,h=>by
  simp only [ordB,ho,List.any_eq_true,aP,Bool.or_eq_true] at h;obtain ⟨e,he,hb,hj⟩:=h;have KD:e∈o.after:=sU he;have h1:=eC e KD hb;rcases hj with hj | hj
  ·have:e.on=j:=sU hj;rw [<- this];exact h1
  ·cases KE:ops[e.on]? with
   | none=>
    cases n with
    | zero=>simp [ordB] at hj
    | succ n=>simp [ordB,KE] at hj
   | some o'=>exact zD hc n j e.on o' KE (hc e.on o' KE h1) hj
theorem xC {rem:List Nat} (hP:xB ops W=true) (hc:Cl ops rem) {i j:Nat} (hi:rdy ops rem i=true) (hj:rdy ops rem j=true) (jt:i∈rem) (mE:j∈rem) (fL:i≠j) (MA:A2 ops i=false∨A2 ops j=false):ik ops W j i=true:=by
 obtain ⟨o,ho,ha⟩:=dT hi;obtain ⟨o',rR,ha'⟩:=dT hj;simp only [xB,List.all_eq_true,List.mem_range] at hP;have h1:=hP i (Array.getElem?_eq_some_iff.1 ho).1 j (Array.getElem?_eq_some_iff.1 rR).1;simp only [Bool.or_eq_true,aP,Nat.beq_eq] at h1
 grind [zD]
theorem nF {i:Nat} {o:Oper} (h:ops[i]? = some o):A2 ops i=isE o.op:=by unfold A2;rw [h]
theorem tp (dP:∀ (j:Nat) (o:Oper) cs b,ops[j]? = some o->o.op ≠ .select cs b) (hP:xB ops W=true) {i:Nat} {o:Oper} (hi:ops[i]? = some o) (hE:isE o.op=false) :
  ∀ (T:dg) (rem:List Nat) (a:Act) (w:World),rem.Nodup->Cl ops rem->chkA ops T rem none=true->runS P ops W C Q T a w->i∈rem->rdy ops rem i=true ->
   ∃ v,Yl P ops C o v a/\(isL o.op=true->C w)/\Iq P ops W C Q (rem.erase i) (a.put o.dst v) w
 | .fin,rem,a,w,_,_,hc,_,jt,_=>by grind [chkA]
 | .stop,rem,a,w,_,_,hc,_,_,_=>by simp [chkA] at hc
 | .ev j t alt,rem,a,w,hn,cC,hc,hr,jt,rG=>by
  exfalso
  have key:∀ (T:dg) (seen:List Nat),(∀ k∈seen,A2 ops k=true)->chkA ops T rem (some seen)=true->False:=by
   intro T
   induction T with
   | fin=>intro seen _ h;simp [chkA] at h
   | op=>intro seen _ h;simp [chkA] at h
   | ev k t alt _ ih=>grind [chkA]
   | stop=>grind [chkA,nF]
  grind [chkA]
 | .op j t,rem,a,w,hn,cC,hc,hr,jt,rG=>by
  simp only [chkA,aP,Bool.not_eq_true'] at hc;obtain ⟨_,mE,JE,F2,x7⟩:=hc;have mE:j∈rem:=sU mE;simp only [runS] at hr;obtain ⟨y,hy,v,DS,LH,Ir⟩:=hr;by_cases fL:i=j
  ·subst fL;rw [hi] at hy;simp only [oI] at hy;subst hy;exact ⟨v,DS,LH,t,x7,Ir⟩
  ·have vN:=xC hP cC rG F2 jt mE fL (.inr JE);obtain ⟨BE,IZ,_,_⟩:=cV vN hy hi;obtain ⟨u,hu,P5,T',Sx,CH⟩:=tp dP hP hi hE t (rem.erase j) (a.put y.dst v) w (hn.erase j) (iA hn cC F2) x7 Ir ((List.mem_erase_of_ne fL).2 jt) (eA rG);have De:=fun cs b=>dP i o cs b hi;have O2:=fun cs b=>dP j y cs b hy;obtain ⟨_,Sy,_⟩:=Oper.apart_spec BE;refine ⟨u,(Yl.same BE De).1 hu,P5,.op j T',?_,?_⟩
   ·grind [chkA,eA]
   ·simp only [runS];refine ⟨y,hy,v,(Yl.same IZ O2).2 DS,LH,?_⟩;rw [<- Act.put_comm a v u Sy];exact CH
theorem xD {e:Nat}:∀ (T:dg) (rem:List Nat) (seen:List Nat) (a:Act) (w:World),chkA ops T rem (some seen)=true->runS P ops W C Q T a w->e∈rem->rdy ops rem e=true->e ∉ seen ->
  ∃ o t,ops[e]? = some o/\chkA ops t (rem.erase e) none=true/\cd P ops o a w fun a' w'=>(W e=false->C w->C w')/\runS P ops W C Q t a' w'
 | .fin,rem,seen,a,w,hc,_,_,_,_=>by simp [chkA] at hc
 | .op _ _,rem,seen,a,w,hc,_,_,_,_=>by simp [chkA] at hc
 | .stop,rem,seen,a,w,hc,_,hm,hr,hs=>by
  simp only [chkA,List.all_eq_true,Bool.or_eq_true,Bool.not_eq_true'] at hc;rcases hc e hm with h | h
  ·rw [hr] at h;cases h
  ·exact (hs (sU h)).elim
 | .ev i t alt,rem,seen,a,w,hc,hr,hm,rG,hs=>by
  simp only [chkA,aP,Option.getD_some] at hc;simp only [runS] at hr;obtain ⟨⟨o,ho,bo⟩,LI⟩:=hr;by_cases Hx:i=e
  ·subst Hx;exact ⟨o,t,ho,hc.2.2.2.1,bo⟩
  ·exact xD alt rem (i :: seen) a w hc.2.2.2.2 LI hm rG (fun h=>by
    rcases bX h with h | h
    ·exact Hx h.symm
    ·exact hs h)
theorem A3 (dP:∀ (j:Nat) (o:Oper) cs b,ops[j]? = some o->o.op ≠ .select cs b) (hP:xB ops W=true) {i:Nat} {o:Oper} (hi:ops[i]? = some o) (hE:isE o.op=true) :
  ∀ (T:dg) (rem:List Nat) (a:Act) (w:World),rem.Nodup->Cl ops rem->chkA ops T rem none=true->runS P ops W C Q T a w->i∈rem->rdy ops rem i=true ->
   cd P ops o a w (fun a' w'=>(W i=false->C w->C w')/\Iq P ops W C Q (rem.erase i) a' w')
 | .fin,rem,a,w,_,_,hc,_,jt,_=>by grind [chkA]
 | .stop,rem,a,w,_,_,hc,_,_,_=>by simp [chkA] at hc
 | .ev j t alt,rem,a,w,hn,cC,hc,hr,jt,rG=>by
  simp only [chkA,aP,Option.getD_none] at hc;simp only [runS] at hr;obtain ⟨⟨y,hy,bo⟩,LI⟩:=hr;by_cases fL:i=j
  ·subst fL;rw [hi] at hy;simp only [oI] at hy;subst hy;exact bM (fun a' w' h=>⟨h.1,t,hc.2.2.2.1,h.2⟩) bo
  ·obtain ⟨o',t',rR,x7,hs⟩:=xD alt rem [j] a w hc.2.2.2.2 LI jt rG (sU fL);rw [hi] at rR;simp only [oI] at rR;subst rR;exact bM (fun a' w' h=>⟨h.1,t',x7,h.2⟩) hs
 | .op j t,rem,a,w,hn,cC,hc,hr,jt,rG=>by
  simp only [chkA,aP,Bool.not_eq_true'] at hc;obtain ⟨_,mE,JE,F2,x7⟩:=hc;have mE:j∈rem:=sU mE;simp only [runS] at hr;obtain ⟨y,hy,v,DS,LH,Ir⟩:=hr;have fL:i≠j:=by grind [nF]
  have vN:=xC hP cC rG F2 jt mE fL (.inr JE);obtain ⟨BE,IZ,_,Tz⟩:=cV vN hy hi;have De:=fun cs b=>dP i o cs b hi;have O2:=fun cs b=>dP j y cs b hy;have ih:=A3 dP hP hi hE t (rem.erase j) (a.put y.dst v) w (hn.erase j) (iA hn cC F2) x7 Ir ((List.mem_erase_of_ne fL).2 jt) (eA rG);refine bM ?_ (iP ((ka BE De).1 ih));rintro a' w' ⟨⟨BF,T',Sx,CH⟩,u,rfl⟩;refine ⟨BF,.op j T',?_,?_⟩
  ·grind [chkA,eA]
  ·grind [runS,Yl.same]
theorem xE {Q':Exit->Act->World->Prop} (dP:∀ (j:Nat) (o:Oper) cs b,ops[j]? = some o->o.op ≠ .select cs b) (hP:xB ops W=true) (hb:∀ (i:Nat) (o:Oper),ops[i]? = some o->∀ e∈o.after,Region.binds .any e=true->e.on < ops.size)
  (hQ:∀ a w,Q a w->Q' .normal a w):∀ (fm:Nat) (ak:Array Bool) (rem:List Nat) (a:Act) (w:World),
  ak.size=ops.size->(∀ i,i∈rem↔i < ops.size/\ak.getD i true=false)->rem.Nodup->Cl ops rem->rem.length<=fm->Iq P ops W C Q rem a w->wpAny P .any ops Q' fm ak a w:=by
 have uM:∀ (ak:Array Bool) (rem:List Nat),ak.size=ops.size->(∀ i,i∈rem↔i < ops.size/\ak.getD i true=false)->∀ i,i∈Region.ready .any ops ak↔i∈rem/\rdy ops rem i=true:=by
  intro ak rem cf iQ i;have hl:∀ k,k < ops.size->(ak.getD k false=true↔k ∉ rem):=fun k hk=>by grind
  rw [mem_ready]
  grind [rdy,dT]
 intro fm
 induction fm with
 | zero=>
  intro ak rem a w cf iQ hn cC hlen hr;have:rem=[]:=List.length_eq_zero_iff.1 (by omega);subst this;obtain ⟨T,hT,CH⟩:=hr;refine ⟨?_,hQ _ _ ?_⟩
  ·rw [List.eq_nil_iff_forall_not_mem];intro i hi;cases ((uM ak [] cf iQ i).1 hi).1
  ·cases T with
   | fin=>exact CH
   | op i t=>simp [chkA] at hT
   | ev i t alt=>simp [chkA] at hT
   | stop=>simp [chkA] at hT
 | succ fm ih=>
  intro ak rem a w cf iQ hn cC hlen hr;obtain ⟨T,hT,CH⟩:=hr;refine ⟨fun h0=>?_,fun i hi=>?_⟩
  ·cases T with
   | fin=>exact hQ _ _ CH
   | op i t=>
    exfalso;simp only [chkA,aP] at hT;have:=(uM ak rem cf iQ i).2 ⟨by simpa using hT.2.1,hT.2.2.2.1⟩;rw [h0] at this;cases this
   | ev i t alt=>
    exfalso;simp only [chkA,aP] at hT;have:=(uM ak rem cf iQ i).2 ⟨by simpa using hT.1,hT.2.2.1⟩;rw [h0] at this;cases this
   | stop=>simp [chkA] at hT
  ·obtain ⟨jt,Sz⟩:=(uM ak rem cf iQ i).1 hi;obtain ⟨o,ho,_⟩:=dT Sz;have iF:=(Array.getElem?_eq_some_iff.1 ho).1
   have se:∀ k,k∈rem.erase i↔k < ops.size/\(ak.setIfInBounds i true).getD k true=false:=by
    intro k;rw [List.Nodup.mem_erase_iff hn];by_cases lO:k=i
    ·subst lO;simp [cf,iF]
    ·rw [getD_set_ne true (Ne.symm lO)]
     grind
   grind [Iq,iA,mX,isE,bM,A3,tp,fl]
end
def goA (X:Ctx) (D:Dr):dg->Bool->List (Nat × Sl)->St->Prop
 | .fin,_,_,st=>go X 4000 D.k st
 | .op i t,c,s0,st=>
  match D.ops.toList[i]? with
  | some o=>goD X ⟨D.ops,D.W,D.k,D.fY,some (goA X D t)⟩ 3000 c [(i,o)] s0 st
  | none=>False
 | .ev i t alt,c,s0,st=>
  (match D.ops.toList[i]? with
  | some o=>goD X ⟨D.ops,D.W,D.k,D.fY,some (goA X D t)⟩ 3000 c [(i,o)] s0 st
  | none=>False)/\goA X D alt c s0 st
 | .stop,_,_,_=>True
def zE (ops:Array Oper):Bool:=Region.noSelect ops && (List.range ops.size).all fun i=>match ops[i]? with | some o=>o.after.toList.all fun e=>!Region.binds .any e || Nat.blt e.on ops.size | none=>true
section
variable {X:Ctx} {D:Dw}
theorem tu (hD:mW D.E0 D.d.fY.bx D.wr) (hf:D.d.fin=none):∀ (T:dg) (rem:List Nat) m,chkA D.d.ops T rem m=true->∀ c s0 st,goA X D.d T c s0 st->∀ E a w,dy X D c E s0 st a w->runS X.P D.d.ops D.d.W D.C (D.Q X) T a w:=by
 intro T
 have O3:∀ (t:dg) (i:Nat) (o:Oper),D.d.ops[i]? = some o->(∀ c s0 st,goA X D.d t c s0 st->∀ E a w,dy X D c E s0 st a w->runS X.P D.d.ops D.d.W D.C (D.Q X) t a w)->∀ c s0 st,goD X ⟨D.d.ops,D.d.W,D.d.k,D.d.fY,some (goA X D.d t)⟩ 3000 c [(i,o)] s0 st->∀ E a w,dy X D c E s0 st a w ->
   runT X.P D.d.ops D.d.W D.C (fun a w=>runS X.P D.d.ops D.d.W D.C (D.Q X) t a w) [i] a w:=fun t i o ho ih c s0 st hg E a w h=>by
  have h1:=dh (D:=⟨⟨D.d.ops,D.d.W,D.d.k,D.d.fY,some (goA X D.d t)⟩,D.E0,D.wr⟩) hD 3000 c [(i,o)] s0 st hg (fun p hp=>by
   rw [List.mem_singleton] at hp;rw [hp]
   exact ho) E a w ⟨h.rel,h.x,h.β,h.t0,h.cc⟩
  refine kh ?_ h1;rintro a w ⟨c,E,s0,st,h2,h3⟩;exact ih c s0 st h3 E a w ⟨h2.rel,h2.x,h2.β,h2.t0,h2.cc⟩
 induction T with
 | fin=>
  intro rem m _ c s0 st hg E a w h;show D.Q X a w;unfold Dw.Q;rw [hf];exact go_sound 4000 _ _ hg E a w h.rel
 | stop=>intro rem m _ c s0 st hg E a w h;exact trivial
 | op i t ih=>
  intro rem m hc c s0 st hg E a w h;simp only [chkA,aP,Bool.not_eq_true'] at hc;simp only [goA] at hg;split at hg
  ·rename_i o ho;have ho:D.d.ops[i]? = some o:=sU ho;have h4:=O3 t i o ho (ih _ _ hc.2.2.2.2) c s0 st hg E a w h;have hE:isE o.op=false:=by rw [<- nF ho];exact hc.2.2.1
   simp only [runT,ho,hE,Bool.false_eq_true,if_false] at h4;exact ⟨o,ho,h4⟩
  ·exact hg.elim
 | ev i t alt ih1 ih2=>
  intro rem m hc c s0 st hg E a w h;simp only [chkA,aP] at hc;obtain ⟨hg,GM⟩:=hg;refine ⟨?_,ih2 _ _ hc.2.2.2.2 c s0 st GM E a w h⟩;split at hg
  ·rename_i o ho;have ho:D.d.ops[i]? = some o:=sU ho;have h4:=O3 t i o ho (ih1 _ _ hc.2.2.2.1) c s0 st hg E a w h;have hE:isE o.op=true:=by rw [<- nF ho];exact hc.2.1
   simp only [runT,ho,hE,if_true] at h4;exact ⟨o,ho,h4⟩
  ·exact hg.elim
end
end Dv
end Go.Proofs.YtfdedoiiahbnnaaGreat
