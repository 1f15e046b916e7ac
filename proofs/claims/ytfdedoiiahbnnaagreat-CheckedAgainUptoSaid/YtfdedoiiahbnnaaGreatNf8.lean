/- Part 8 of the proof: What is wrong with a schema without places; the nodes of its plan; The program's text of a schema; What is written of a schema, and whether it may be, does not look at places; The law of schemas' texts that are checked again: the call returns true. No condition. -/
import Derived.Test.YtfdedoiiahbnnaaGreatNf3
import Derived.Test.YtfdedoiiahbnnaaGreatNf5
import Derived.Test.YtfdedoiiahbnnaaGreatNf7
set_option linter.all false
set_option maxRecDepth 100000
namespace Go.Proofs.YtfdedoiiahbnnaaGreat
open Go Go.RowKit Dv Go.Proofs.Tryz
theorem Zu {c c':Prop} [Decidable c] [Decidable c'] {a b a' b':Ft} (hc:c↔c') (h1:a.1=b.1) (h2:¬ c->a'.1=b'.1):(if c then a else a').1=(if c' then b else b').1:=by grind
theorem my (l:List Wd):aO (aw l)=aO l:=by simp [aO,aw]
theorem iS (l:List Wd):(aw l).length=l.length:=by simp [aw]
theorem jg (w:Wd) (l:List Wd):aw (w :: l)=bZ w :: aw l:=rfl
theorem kC (l:List Wd):aw l=[]↔l=[]:=by simp [aw]
theorem zc (all:List Wd) (i:Nat) (x:Wd):bd (aw all) i (bZ x)=bd all i x:=by
 have:eu ((aw all).take i) (bZ x).s=eu (all.take i) x.s:=by
  unfold eu aw;rw [<- List.map_take,List.any_map];rfl
 unfold bd;rw [this];rfl
theorem se (all:List Wd):∀ (l:List Wd) (i:Nat),(enumL (aw all) i (aw l)).1=(enumL all i l).1
 | [],i=>rfl
 | x :: r,i=>by
  rw [jg,enumL,enumL,zc];split
  ·rfl
  ·exact se all r (i + 1)
theorem GN:∀ l:List Wd,(badWd (aw l)).1=(badWd l).1
 | []=>rfl
 | x :: r=>by
  rw [jg,badWd,badWd];have:(bZ x).s=x.s:=rfl;rw [this];split
  ·exact GN r
  ·rfl
theorem BM (l:List Wd):(du (aw l)).1=(du l).1:=by grind [du,iS,GN]
theorem Jj (p:Ph):(bW (aY p)).1=(bW p).1:=by
 unfold bW;have h1:(aY p).cl=aw p.cl:=rfl;have h2:(aY p).ck=p.ck:=rfl;have h3:(aY p).cn=p.cn:=rfl;rw [h1,h2,h3];refine Zu Iff.rfl (Zu (and_congr Iff.rfl (kC _)) rfl fun _=>rfl) fun _=>?_;refine Zu Iff.rfl rfl fun _=>?_;refine Zu Iff.rfl rfl fun _=>?_;exact BM _
theorem BN (p:Ph):(dZ (aY p)).1=(dZ p).1:=by grind [dZ,aY,aw,BM,Jj]
theorem Nu (h:Hd):(iE (bw h)).1=(iE h).1:=by
 unfold iE;have h1:(bw h).af=aw h.af:=rfl;rw [h1];refine Zu (kC _) rfl fun _=>?_;rw [iS];exact Zu Iff.rfl rfl fun _=>se _ _ _
theorem Vb (h:Hd) (ps:Pts):pB (bw h) (stripP ps)=pB h ps:=by
 unfold pB;rw [qp];have h1:(bw h).af=aw h.af:=rfl;rw [h1,iS];rfl
theorem Vc (h:Hd) (ps:Pts):pA (.mk (bw h) (stripP ps))=pA (.mk h ps):=by
 unfold pA;rw [<- rm,<- rm,Vb]
theorem zd:∀ l m:List Wd,sameWds (aw l) m=sameWds l m
 | [],m=>rfl
 | x :: r,[]=>rfl
 | x :: r,y :: s=>by
  rw [jg,sameWds,sameWds,zd r s];rfl
theorem BO (p q:Ph):cw (aY p) q=cw p q:=by grind [cw,aY,aw,zd]
theorem BP:∀ ps:Pts,pNames (stripP ps)=aw (pNames ps)
 | .nil=>rfl
 | .cons p t r=>by
  rw [stripP,pNames,pNames,jg,BP r];rfl
def WY (a b:Ft × Int):Prop:=a.1.1=b.1.1/\a.2=b.2
theorem ee {c:Prop} [Decidable c] {a b a' b':Ft × Int} (h1:WY a b) (h2:¬ c->WY a' b'):WY (if c then a else a') (if c then b else b'):=by grind
mutual
theorem sg:∀ (t:Ty) (d m:Int),WY (wrong (stripT t) d m) (wrong t d m)
 | .mk h ps,d,m=>by
  have i1:=GO h ps d (m + 1);have i2:=uX h.al (pNames ps) ps 0 d (m + 1);rw [stripT,wrong,wrong,Vc,qp,BP];have e1:(bw h).al=h.al:=rfl;have e2:(bw h).hi=h.hi:=rfl;have e3:(bw h).lo=h.lo:=rfl;have e4:(bw h).most=h.most:=rfl;have e5:(bw h).name.s=h.name.s:=rfl;rw [e1,e2,e3,e4,e5];refine ee ⟨rfl,rfl⟩ fun _=>?_;refine ee ⟨rfl,rfl⟩ fun _=>?_;refine ee ⟨rfl,rfl⟩ fun _=>?_;refine ee ⟨rfl,rfl⟩ fun _=>?_;refine ee ⟨rfl,rfl⟩ fun _=>?_;refine ee ⟨rfl,rfl⟩ fun _=>?_;refine ee ⟨Nu h,rfl⟩ fun _=>?_;refine ee i1 fun _=>?_;refine ee ?_ fun _=>⟨rfl,rfl⟩;refine ee ⟨rfl,rfl⟩ fun _=>?_;exact ee ⟨rfl,rfl⟩ fun _=>i2
theorem GO:∀ (h:Hd) (ps:Pts) (d m:Int),WY (wrongOne (bw h) (stripP ps) d m) (wrongOne h ps d m)
 | h,.nil,d,m=>by
  rw [stripP];simp only [wrongOne];exact ⟨rfl,rfl⟩
 | h,.cons p t .nil,d,m=>by
  have ih:=sg t (d + 1) m;rw [stripP,stripP,wrongOne,wrongOne,BO];have e1:(aY p).name.s=p.name.s:=rfl;have e2:(bw h).most=h.most:=rfl;rw [e1,e2];refine ee ⟨rfl,rfl⟩ fun _=>?_;exact ee ⟨rfl,rfl⟩ fun _=>ih
 | h,.cons p t (.cons q u r),d,m=>by
  rw [stripP,stripP];simp only [wrongOne];exact ⟨rfl,rfl⟩
theorem uX:∀ (al:Int) (all:List Wd) (ps:Pts) (i:Nat) (d m:Int),WY (wrongPts al (aw all) i (stripP ps) d m) (wrongPts al all i ps d m)
 | al,all,.nil,i,d,m=>by rw [stripP,wrongPts,wrongPts];exact ⟨rfl,rfl⟩
 | al,all,.cons p t r,i,d,m=>by
  have i1:=sg t (d + 1) m;have i2:=fun m'=>uX al all r (i + 1) d m';rw [stripP,wrongPts,wrongPts,BO,FB,BN,i1.1,i1.2];have e1:(aY p).name=bZ p.name:=rfl;have e2:(aY p).bare=p.bare:=rfl;rw [e1,e2,zc];refine ee ⟨rfl,rfl⟩ fun _=>?_;refine ee ?_ fun _=>?_
  ·exact ee ⟨rfl,rfl⟩ fun _=>i2 _
  ·refine ee ⟨BN p,rfl⟩ fun _=>?_;exact ee i1 fun _=>i2 _
end
mutual
theorem Sc:∀ t:Ty,(stripT t).cnt=t.cnt
 | .mk h ps=>by rw [stripT,Ty.cnt,Ty.cnt,KW ps]
theorem KW:∀ ps:Pts,(stripP ps).cnt=ps.cnt
 | .nil=>by rw [stripP]
 | .cons p t r=>by rw [stripP,Pts.cnt,Pts.cnt,Sc t,KW r];all_goals rfl
end
mutual
theorem GP:∀ t:Ty,(stripT t).nn=t.nn
 | .mk h ps=>by rw [stripT,Ty.nn,Ty.nn,Sd ps];all_goals rfl
theorem Sd:∀ ps:Pts,(stripP ps).nn=ps.nn
 | .nil=>by rw [stripP]
 | .cons p t r=>by rw [stripP,Pts.nn,Pts.nn,GP t,Sd r];all_goals rfl
end
theorem BQ (t:Ty) (m:Int):WY (cF (stripT t) m) (cF t m):=by
 unfold cF;have:=sg t 1 0;rw [Sc,this.1];refine ee ⟨this.1,rfl⟩ fun _=>?_;exact ee ⟨rfl,rfl⟩ fun _=>⟨rfl,rfl⟩
theorem Se (z:Ty):∀ (l:List (Wd × Ty)) (m:Int),WY (eaR (stripT z) (l.map bR) m) (eaR z l m)
 | [],m=>by rw [List.map_nil,eaR,eaR];exact BQ z m
 | x :: r,m=>by
  have h:=BQ x.2 m;have e1:(bR x).2=stripT x.2:=rfl;rw [List.map_cons,eaR,eaR,e1,h.1,h.2];exact ee h fun _=>Se z r _
theorem Sf (s:Sch):tL (aQ s)=tL s:=by simp_all [tL,zo,aO,aQ,bR,bZ]
theorem vP (L:List ByteArray):∀ l:List Wd,(labW L (aw l)).1=(labW L l).1
 | []=>rfl
 | w :: r=>by
  rw [jg,labW,labW];have:(bZ w).s=w.s:=rfl;rw [this];split
  ·rfl
  ·exact vP L r
theorem if1 {c:Prop} [Decidable c] {a b a' b':Ft} (h1:a.1=b.1) (h2:¬ c->a'.1=b'.1):(if c then a else a').1=(if c then b else b').1:=by grind
mutual
theorem Sg (X:Lx) (L:List ByteArray):∀ t:Ty,(knT X L (stripT t)).1=(knT X L t).1
 | .mk h ps=>by
  have:=Sh X L ps;rw [stripT,knT,knT];exact if1 rfl fun _=>this
theorem Sh (X:Lx) (L:List ByteArray):∀ ps:Pts,(knP X L (stripP ps)).1=(knP X L ps).1
 | .nil=>by rw [stripP]
 | .cons p t r=>by
  have i1:=Sg X L t;have i2:=Sh X L r;have e1:(X.bad (aY p).label).1=(X.bad p.label).1:=vP _ _;have e2:(X.bad (aY p).cl).1=(X.bad p.cl).1:=vP _ _;have e3:(aY p).bare=p.bare:=rfl;rw [stripP,knP,knP,e1,e2,e3,i1]
  grind
end
theorem Si (s:Sch) (t:Ty):(vG (aQ s) (stripT t)).1=(vG s t).1:=by grind [vG,aQ,aw,my,Sf,Sg]
theorem Sj {F G:Ty->Ft} {z y:Ft} (hz:z.1=y.1) (h:∀ t,(F (stripT t)).1=(G t).1):∀ l:List (Wd × Ty),(eaL F z (l.map bR)).1=(eaL G y l).1
 | []=>hz
 | x :: r=>by
  have e1:(bR x).2=stripT x.2:=rfl;rw [List.map_cons,eaL,eaL,e1,h x.2];exact if1 (h x.2) fun _=>Sj hz h r
theorem ze (s:Sch):(aQ s).types.length=s.types.length:=by simp [aQ]
theorem GQ (t:Ty):(stripT t).h=bw t.h:=by cases t;rfl
theorem Dl (s:Sch):∀ (k i:Nat),endI (aQ s) k i=endI s k i
 | 0,i=>rfl
 | k + 1,i=>by
  rw [endI,endI,Sf];have:(aQ s).types[i]? = (s.types[i]?).map bR:=by simp [aQ]
  rw [this]
  cases s.types[i]? with
  | none=>rfl
  | some x=>
   simp only [Option.map_some];have e1:(bR x).2=stripT x.2:=rfl;rw [e1,GQ,Dl s k];rfl
theorem Sk (s:Sch):(loopF (aQ s)).1=(loopF s).1:=by grind [loopF,ze,endI,aQ,Dl]
theorem Zv (s:Sch):zo (aQ s)=aw (zo s):=by
 unfold zo aQ aw;simp [List.map_map,Function.comp_def,bR]
 intros
 rfl
theorem Nv (s:Sch):(gH (aQ s)).1=(gH s).1:=by
 unfold gH;rw [ze,Zv];exact if1 rfl fun _=>se _ _ _
theorem Dm (L:List ByteArray) (o:List (Wd × Wd)):fT L (o.map cg)=fT L o:=by
 unfold fT;rw [List.map_map];rfl
theorem KX (L:List ByteArray):∀ o:List (Wd × Wd),(numF L (o.map cg)).1=(numF L o).1
 | []=>rfl
 | p :: r=>by
  have e1:(cg p).1.s=p.1.s:=rfl;have e2:(cg p).2.s=p.2.s:=rfl;rw [List.map_cons,numF,numF,e1,e2];refine if1 rfl fun _=>?_;exact if1 rfl fun _=>KX L r
theorem Vd (s:Sch):(latF (aQ s).ae (aQ s).order).1=(latF s.ae s.order).1:=by
 have e1:(aQ s).ae=aw s.ae:=rfl;have e2:(aQ s).order=s.order.map cg:=rfl;rw [e1,e2]
 have hm:(jA (aw s.ae) (s.order.map cg)).1=(jA s.ae s.order).1:=by
  unfold jA;refine Zu (kC _) rfl fun _=>?_;rw [iS,List.length_map]
  grind
 have he:=se s.ae s.ae 0;have hn:=KX (aO s.ae) s.order;unfold latF;rw [hm,he,my,hn,Dm,iS]
 grind
theorem Ve (s:Sch):(kI (aQ s)).1=(kI s).1:=by
 have h1:=Vd s;have h2:=Nv s;have h3:=(Se s.root s.types 0).1;have h4:=Sj (Si s s.root) (Si s) s.types;have h5:=Sk s;have e1:(aQ s).root=stripT s.root:=rfl;have e2:(aQ s).types=s.types.map bR:=rfl;unfold kI
 grind
def iU (e:Ed):Ed:=⟨e.name,e.bare,0,e.to,e.label,e.wide,e.ck,e.cn,e.seen,0⟩
def eU (n:Nd):Nd:=⟨n.al,0,n.lo,n.hi,n.most,n.af,n.cB.map iU⟩
theorem KY (s:Sch) (l:List Wd):eH (aQ s) (aw l)=eH s l:=by
 have e1:(aQ s).ae=aw s.ae:=rfl;have e2:(aQ s).order=s.order.map cg:=rfl
 have e3:∀ L,vl L (aw l)=vl L l:=fun L=>by
  unfold vl aw;rw [List.map_map];rfl
 grind [eH,Fi,my,iS,Dm,vP]
theorem Nx (s:Sch) (k:Nat):firstA (aQ s) k=firstA s k:=by
 have e2:(aQ s).types=s.types.map bR:=rfl;unfold firstA;rw [e2,<- List.map_take,List.map_map]
 have:(fun x:Wd × Ty=>x.2.nn) ∘ bR=fun x=>x.2.nn:=by
  funext x;exact GP x.2
 rw [this]
theorem Ny (s:Sch) (i:Nat):namedN (aQ s) i=namedN s i:=by
 unfold namedN;rw [ze,Dl,Nx]
theorem Zw (s:Sch) (n:ByteArray):YB (aQ s) n=YB s n:=by
 unfold YB;rw [Sf,Ny]
theorem KZ (s:Sch) (t:Ty) (k:Nat):vm (aQ s) (stripT t) k=vm s t k:=by
 unfold vm;rw [GQ,Zw];rfl
mutual
theorem Dp (s:Sch):∀ (t:Ty) (k:Nat),ndsT (eH (aQ s)) (aQ s) (stripT t) k=(ndsT (eH s) s t k).map eU
 | .mk h ps,k=>by
  have i1:=K5 s ps (k + 1);have i2:=K6 s ps (k + 1);have e1:(bw h).af=aw h.af:=rfl;rw [stripT,ndsT,ndsT,i1,i2,e1,my];have e2:(bw h).al=h.al:=rfl;rw [e2];by_cases h9:h.al=9
  ·rw [ah h9,ah h9];all_goals rfl
  ·rw [ag h9,ag h9];all_goals rfl
theorem K5 (s:Sch):∀ (ps:Pts) (k:Nat),edsP (eH (aQ s)) (aQ s) (stripP ps) k=(edsP (eH s) s ps k).map iU
 | .nil,k=>rfl
 | .cons p u r,k=>by
  have ih:=fun k'=>K5 s r k'
  have e1:CK (eH (aQ s)) (aY p) (AO (aQ s) (aY p) (stripT u) k)=iU (CK (eH s) p (AO s p u k)):=by
   have h1:AO (aQ s) (aY p) (stripT u) k=AO s p u k:=by
    unfold AO;rw [KZ];rfl
   have h2:eH (aQ s) (aY p).label=eH s p.label:=KY s _;have h3:eH (aQ s) (aY p).cl=eH s p.cl:=KY s _;unfold CK iU;rw [h1,h2,h3];rfl
  grind [aY,stripP,edsP,GP]
theorem K6 (s:Sch):∀ (ps:Pts) (k:Nat),rO (eH (aQ s)) (aQ s) (stripP ps) k=(rO (eH s) s ps k).map eU
 | .nil,k=>rfl
 | .cons p u r,k=>by
  have i1:=Dp s u k;have i2:=fun k'=>K6 s r k'
  grind [aY,stripP,rO,GP]
end
theorem BR (s:Sch):∀ (l:List (Wd × Ty)) (k:Nat),ndsAll (eH (aQ s)) (aQ s) (l.map bR) k=(ndsAll (eH s) s l k).map eU
 | [],k=>rfl
 | x :: r,k=>by
  have e1:(bR x).2=stripT x.2:=rfl;rw [List.map_cons,ndsAll,ndsAll,e1,Dp,GP,BR s r,List.map_append]
theorem K7 (s:Sch):tz (aQ s)=(tz s).map eU:=BR s s.types 0
theorem pq (s:Sch):aW (aQ s)=(aW s).map eU:=by grind [aQ,stripT,aW,K7,Dp]
theorem zf (s:Sch):il (aQ s)=il s:=by grind [aQ,stripT,il,KZ,K7]
theorem Nz (p:Wd × Wd) (hs:p.1.s.size + p.2.s.size<=1099511627776):bA prog 58 [.agg (Tx p)] (.v (.string (ba (sr p)))):=by
 refine eG 11 [.tmp 2] func58 rfl ntmps58 rfl fun _ _ _ _=>?_;refine ⟨by (simp only [aG,aS,List.length_cons,List.length_nil];omega),?_⟩;refine ⟨by (simp only [aG,aS,List.length_cons,List.length_nil];omega),?_⟩;refine (congrArg (fun s=>DV.v (.string s)) (cW ?_):_=_);simp [sr,ey,fY]
theorem GR (l:List (Wd × Wd)) (hs:prsWt l<=1099511627776):bA prog 57 [.sl 4 (eY l) none,.fn 58 [] []] (.v (.string (ba (joinT [] [44,32] (l.map sr))))):=by
 have hl:=iH l;have hj:=ez (f:=[]) (s:=[44,32]) (by simp) (by simp) (l.map sr);have hj2:=Jg l;refine eG 23 [.tmp 4] func57 rfl ntmps57 rfl fun _ _ _ _=>?_;refine lJ (fun e=>sR 4 (eY l) 58 (l.map sr) e e) l.length (gk ⟨0,9,1,none⟩ rfl ⟨_,rfl⟩ rfl wA rfl rfl vb) ?_;intro e he;refine br ?_ ?_<;>intro h
 ·have aE:e < l.length:=by have:=h;simp [eB] at this;exact this
  obtain ⟨w,hw⟩:=gX aE;have LN:=sZ (mG hw);simp only [Wd.wt] at LN;have lL:(l.map sr)[e]? = some (sr w):=by simp [hw]
  refine ⟨Tx w,⟨by omega,rr hw⟩,?_⟩;refine cP en58 (Nz w (by omega)) ?_;refine ⟨by simp [c7];omega,⟨by simp [c7,maxLen];omega,by simp [c7];omega⟩,?_⟩;refine ⟨sR 4 (eY l) 58 (l.map sr) (e + 1) (e + 1),(dg (re (cR aE (by omega)) (oh lL))),l.length - (e + 1),by omega,e + 1,rfl,by omega,rfl⟩
 ·have hge:e=l.length:=by
   have:=h;simp [eB] at this;omega
  have gj:(l.map sr).take e=l.map sr:=List.take_of_length_le (by simp;omega);rw [gj];refine cP JJ (oU (l.map sr) (ba [44,32]) (by simp;omega) (by rw [nF];omega)) ?_;rw [nF];exact (rfl:_=_)
theorem GS {s:Sch} (hr:s5 s) (h:dF s=true):(∀ x∈s.types,lW x.2)/\lW s.root:=by
 simp only [dF,bg,List.all_eq_true] at h;obtain ⟨⟨⟨_,_⟩,h3⟩,h4⟩:=h;refine ⟨fun x hx=>mU x.2 1 0 (hr.1 x hx) (of_decide_eq_true (h3 x hx).2),mU s.root 1 0 hr.2 (of_decide_eq_true h4)⟩
def qK (s:Sch):ByteArray:=if dF s=true then ba (fj s) else ⟨#[]⟩
abbrev Sn (s:Sch) (l:List UInt8) (e:Nat):St:=
 ⟨[bq 1 0,bq 3 1,dH 21 11 (dNms s.types),aJ 22 ((dNms s.types).length),aJ 23 e],
  [iG s,[.loc 1 0,.sl 1 (bD l) (some 0)]],[⟨l.length,5,1,none⟩]⟩
def upto (s:Sch) (e:Nat):List UInt8:=nI s ++ y8 s ++ ((s.types.take e).map GG).flatten
theorem NA {s:Sch} {e:Nat} {x:Wd × Ty} (h:s.types[e]? = some x):upto s (e + 1)=upto s e ++ GG x:=by
 unfold upto;rw [List.take_add_one,h];simp
theorem Vf {l:List (Wd × Ty)} (hf:∀ x∈l,lW x.2):((l.map GG).flatten).length<=nmsWt l:=by
 induction l with
 | nil=>simp
 | cons x r ih=>
  have i1:=ih (fun y hy=>hf y (by simp [hy]));have i2:=jJ (hf x (by simp));simp only [List.map_cons,List.flatten_cons,List.length_append,nmsWt,GG,bH,List.length_cons,List.length_nil,Wd.wt];omega
theorem zg:∀ (l:List (Wd × Ty)) (e:Nat),nmsWt (l.take e)<=nmsWt l
 | [],e=>by simp
 | w :: r,0=>by simp [nmsWt]
 | w :: r,e + 1=>by
  have:=zg r e;simp only [List.take_succ_cons,nmsWt];omega
theorem NB (s:Sch) (cV:s.wt<=1099511627776) (hrng:s5 s):bA prog 21 [.agg (iG s)] (.v (.string (qK s))):=by
 have h1:=cE s.ae;have h2:=iH s.order;have h3:=jU s.types;have Zx:=GK s cV;simp only [Sch.wt] at cV;have e0:qK s=if dF s=true then ba (fj s) else ⟨#[]⟩:=rfl
 have ad1:=GS hrng;have l1:=xi s.ae (by omega);have l2:=GR s.order (by omega);have j1:=ez (f:=[]) (s:=[44,32]) (by simp) (by simp) (s.ae.map mD);have j2:=qi s.ae;have j3:=ez (f:=[]) (s:=[44,32]) (by simp) (by simp) (s.order.map sr);have j4:=Jg s.order;generalize qK s=D at e0 ⊢;have hH:(nI s).length<=wdsWt s.ae + 20:=by simp only [nI,List.length_append,List.length_cons,List.length_nil];omega
 have hO:(y8 s).length<=prsWt s.order + 10:=by simp only [y8,List.length_append,List.length_cons,List.length_nil];omega
 have hk:=fun hf=>Ao s.root (by omega) hf;generalize hs:s=s' at *;obtain ⟨ae,order,types,⟨h,ps⟩⟩:=s';clear hs;simp only at h1 h2 h3 cV l1 l2 j1 j2 j3 j4 hH hO hk ad1;refine Ce (s:=false) (bt:=[(1,113)]) (hbt:=fun p hp=>Nat.zero_le _) (P:=prog) tt ui 5000 44 [.tmp 2] func21 rfl ntmps21 rfl (nL rfl) (fun _ _ _ _=>?_);refine cP en34 Zx ?_;refine br ?_ ?_<;>intro c
 ·have c:dF ⟨ae,order,types,.mk h ps⟩=false:=sU c;rw [c,ag (by simp)] at e0;refine (congrArg (fun s=>DV.v (.string s)) ?_:_=_);rw [e0]
 have c:dF ⟨ae,order,types,.mk h ps⟩=true:=sU c;rw [ah c] at e0;obtain ⟨hft,hfr⟩:=ad1 c;have uB:=jJ hfr;refine cP aaR l1 ?_;refine ⟨by (simp only [aG,aS,List.length_cons,List.length_nil];omega),?_⟩;refine ⟨by (simp only [aG,aS,List.length_cons,List.length_nil];omega),?_⟩;refine ja rfl (nI ⟨ae,order,types,.mk h ps⟩) (l:=[]) (kt:=0) (by simp [nI]) (.head _) rfl (.inl rfl) (.inl ⟨rfl,rfl,rfl,rfl⟩) (by (simp only [aG,aS,List.length_cons,List.length_nil];omega)) (by omega) rfl ?_;refine cP en57 l2 ?_;refine ⟨by (simp only [aG,aS,List.length_cons,List.length_nil];omega),?_⟩;refine ja rfl (upto ⟨ae,order,types,.mk h ps⟩ 0) (l:=nI ⟨ae,order,types,.mk h ps⟩) (kt:=0) (by simp [upto,y8]) (.head _) rfl (.inr rfl) (.inr ⟨rfl,by simp [nI],rfl,rfl⟩) (by (simp only [aG,aS,List.length_cons,List.length_nil];omega)) (by simp [upto];omega) rfl ?_;refine lJ (fun e=>Sn ⟨ae,order,types,.mk h ps⟩ (upto ⟨ae,order,types,.mk h ps⟩ e) e) types.length (dg wB) ?_;intro e he
 have hul:(upto ⟨ae,order,types,.mk h ps⟩ e).length<=wdsWt ae + prsWt order + nmsWt types + 30:=by
  have e1:=Vf (l:=types.take e) (fun x hx=>hft x (List.mem_of_mem_take hx));have e2:=zg types e;simp only [upto,List.length_append];omega
 have ad2:upto ⟨ae,order,types,.mk h ps⟩ e ≠ []:=by simp [upto,nI]
 refine br ?_ ?_<;>intro hL
 ·have aE:e < types.length:=by have:=hL;simp [dN] at this;exact this
  obtain ⟨w,hw⟩:=gX aE;have Cp:=gM (mG hw);have hwf:=hft w (mG hw);have zn:=NA (s:=⟨ae,order,types,.mk h ps⟩) hw;have hkw:=Ao w.2 (by omega) hwf;have nE:=jJ hwf;simp only [Wd.wt] at Cp;obtain ⟨w,u,us⟩:=w;simp only at Cp hkw nE;refine iX (dNms_get hw) ?_;refine Cj (fun i=>Nat.beq i 9) mo (by decide +kernel) ?_;refine ⟨by (simp only [aG,aS,List.length_cons,List.length_nil];omega),?_⟩;refine ⟨by (simp only [aG,aS,List.length_cons,List.length_nil];omega),?_⟩;refine cD Ly hkw ?_;refine ⟨by (simp only [aG,aS,List.length_cons,List.length_nil];omega),?_⟩;refine Hr rfl (ja rfl (upto ⟨ae,order,types,.mk h ps⟩ (e + 1)) (l:=upto ⟨ae,order,types,.mk h ps⟩ e) (kt:=0) (by rw [zn];simp [GG,tx]) (.head _) rfl (.inr rfl) (.inr ⟨rfl,ad2,rfl,rfl⟩) (by (simp only [aG,aS,List.length_cons,List.length_nil];omega)) (by rw [zn];simp only [List.length_append,GG,bH,List.length_cons,List.length_nil];omega) rfl ?_);refine ⟨Sn ⟨ae,order,types,.mk h ps⟩ (upto ⟨ae,order,types,.mk h ps⟩ (e + 1)) (e + 1),(dg (gv (cR aE (by omega)))),types.length - (e + 1),by omega,e + 1,rfl,by omega,rfl⟩
 have hge:e=types.length:=by have:=hL;simp [dN] at this;omega
 subst hge;refine cP Ly (hk hfr) ?_;refine ⟨by (simp only [aG,aS,List.length_cons,List.length_nil];omega),?_⟩;have NL:fj ⟨ae,order,types,.mk h ps⟩=upto ⟨ae,order,types,.mk h ps⟩ types.length ++ ([32,114,111,111,116,32] ++ tyT (.mk h ps)):=by simp [fj,upto]
 refine ja rfl (fj ⟨ae,order,types,.mk h ps⟩) (l:=upto ⟨ae,order,types,.mk h ps⟩ types.length) (kt:=0) (by rw [NL];simp) (.head _) rfl (.inr rfl) (.inr ⟨rfl,ad2,rfl,rfl⟩) (by (simp only [aG,aS,List.length_cons,List.length_nil];omega)) (by rw [NL];simp only [List.length_append,List.length_cons,List.length_nil];omega) rfl ?_;refine TL rfl (l:=fj ⟨ae,order,types,.mk h ps⟩) (kt:=0) (.head _) rfl (by rw [NL];simp) rfl rfl rfl rfl ?_;refine (congrArg (fun s=>DV.v (.string s)) ?_:_=_);rw [e0]
mutual
theorem Dq:∀ t:Ty,rngT (stripT t)↔rngT t
 | .mk h ps=>by
  rw [stripT,rngT,rngT,K8 ps];exact Iff.rfl
theorem K8:∀ ps:Pts,rngP (stripP ps)↔rngP ps
 | .nil=>by rw [stripP]
 | .cons p t r=>by
  rw [stripP,rngP,rngP,Dq t,K8 r];exact Iff.rfl
end
theorem K9 (s:Sch):s5 (aQ s)↔s5 s:=by
 unfold s5;show (∀ x∈s.types.map bR,rngT x.2)/\rngT (stripT s.root)↔_;rw [Dq]
 have:(∀ x∈s.types.map bR,rngT x.2)↔∀ x∈s.types,rngT x.2:=by
  simp only [List.mem_map,forall_exists_index,and_imp,forall_apply_eq_imp_iff₂];exact forall_congr' fun x=>imp_congr Iff.rfl (Dq x.2)
 rw [this]
theorem Jk (l:List Wd):(aw l).map mD=l.map mD:=by simp [aw,mD]
theorem BS (l:List Wd):iF (aw l)=iF l:=by
 cases l with
 | nil=>rfl
 | cons w r=>
  have:=Jk (w :: r);rw [qJ] at this ⊢;unfold iF;rw [this]
theorem NC (p:Ph):eA (aY p)=eA p:=by
 unfold eA;rw [show (aY p).label=aw p.label from rfl,show (aY p).cl=aw p.cl from rfl,BS,BS];rfl
theorem Sp (h:Hd) (u:List UInt8) (l:List (List UInt8)):fv (bw h) u l=fv h u l:=by
 unfold fv;rw [show (bw h).af=aw h.af from rfl,Jk];rfl
mutual
theorem Ds:∀ t:Ty,tyT (stripT t)=tyT t
 | .mk h ps=>by
  have h2:jI (decide (h.al=8)) (stripP ps)=jI (decide (h.al=8)) ps:=La _ ps
  have h3:firstT (stripP ps)=firstT ps:=by
   cases ps with
   | nil=>rfl
   | cons p t r=>rw [stripP,firstT,firstT,Ds t]
  rw [stripT,tyT,tyT,Sp,h3];show fv h (firstT ps) (jI (decide (h.al=8)) (stripP ps))=_;rw [h2]
theorem La:∀ (tag:Bool) (ps:Pts),jI tag (stripP ps)=jI tag ps
 | _,.nil=>by rw [stripP]
 | tag,.cons p t r=>by
  rw [stripP,jI,jI,La tag r,Ds t];unfold ie;rw [NC];rfl
end
theorem Lb (s:Sch):fj (aQ s)=fj s:=by
 have h1:(s.order.map cg).map sr=s.order.map sr:=by simp [sr,cg,bZ]
 have h2:(s.types.map bR).map GG=s.types.map GG:=by simp [GG,bR,bZ,Ds]
 unfold fj nI y8;show _ ++ joinT [] [44,32] ((aw s.ae).map mD) ++ _ ++ (joinT [] [44,32] ((s.order.map cg).map sr) ++ _) ++ ((s.types.map bR).map GG).flatten ++ (_ ++ tyT (stripT s.root))=_;rw [Jk,h1,h2,Ds]
theorem Lc (t:Ty):nP (stripT t)=nP t:=by
 unfold nP;rw [(sg t 1 0).1]
theorem BT (s:Sch):dF (aQ s)=dF s:=by
 have h1:decide ((aw s.ae) ≠ [])=decide (s.ae ≠ []):=by simp [aw]
 have h2:((aw s.ae).all fun w=>ay w.s)=s.ae.all fun w=>ay w.s:=by simp [aw,List.all_map,Function.comp_def]
 have h3:((s.order.map cg).all fun p=>ay p.1.s && ay p.2.s)=s.order.all fun p=>ay p.1.s && ay p.2.s:=by simp [cg,bZ,List.all_map,Function.comp_def]
 have h4:((s.types.map bR).all fun x=>ay x.1.s && nP x.2)=s.types.all fun x=>ay x.1.s && nP x.2:=by simp [bR,bZ,List.all_map,Function.comp_def,Lc]
 unfold dF;show ((((decide ((aw s.ae) ≠ []) && ((aw s.ae).all fun w=>ay w.s)) && ((s.order.map cg).all fun p=>ay p.1.s && ay p.2.s)) && ((s.types.map bR).all fun x=>ay x.1.s && nP x.2)) && nP (stripT s.root))=_;rw [h1,h2,h3,h4,Lc]
theorem GU {a b:Sch} (h:aQ a=aQ b):(s5 a↔s5 b)/\a.wt=b.wt/\dF a=dF b/\fj a=fj b/\qK a=qK b:=by
 have h1:dF a=dF b:=by rw [<- BT,h,BT]
 have h2:fj a=fj b:=by rw [<- Lb,h,Lb]
 refine ⟨by rw [<- K9,h,K9],by rw [<- BL,h,BL],h1,h2,?_⟩;unfold qK;rw [h1,h2]
theorem NE {S:Sch} (h:dF S=true):qK S=ba (fj S)/\(qK S).size=(fj S).length:=by
 have e:qK S=ba (fj S):=by rw [qK,ah h]
 exact ⟨e,by rw [e,<- bH,nF]⟩
theorem Ld:∀ (D:List Nat) (ND:List Nd),(chkA D (ND.map eU)).1=(chkA D ND).1
 | [],ND=>by cases ND<;>rfl
 | k :: r,[]=>rfl
 | k :: r,n :: s=>by
  rw [List.map_cons,chkA,chkA];split
  ·rfl
  ·exact Ld r s
theorem BU (K:List Nat):∀ (l:List Ed) (m:Nat),leastR K (l.map iU) m=leastR K l m
 | [],m=>rfl
 | e :: r,m=>by
  rw [List.map_cons,leastR,leastR,BU K r];rfl
theorem tV (K:List Nat):∀ (l:List Ed) (m:Nat),cY K (l.map iU) m=cY K l m
 | [],m=>rfl
 | e :: r,m=>by
  rw [List.map_cons,cY,cY,tV K r,tV K r];rfl
theorem NF (K:List Nat) (n:Nd):cz (eU n) K=cz n K:=by
 unfold cz;show (if n.al=7 then leastR K (n.cB.map iU) 0 else if n.al=8 then cY K (n.cB.map iU) 0 else 1)=_;rw [BU,tV]
theorem Le (ND:List Nd):∀ d,depN (ND.map eU) d=depN ND d
 | 0=>by simp [depN]
 | d + 1=>by
  rw [depN,depN,Le ND d,List.map_map];exact List.map_congr_left fun n _=>NF _ n
theorem Lf (f:Nat->Nat->Bool) (ND:List Nd) (e:Ed):(effE f (ND.map eU) (iU e)).1=(effE f ND e).1:=by
 unfold effE;rw [List.getElem?_map];show (if e.ck=0 then _ else match ND[e.to.toNat]?.map eU with | none=>(14,0) | some m=>if m.al=BF e.ck then (if (f e.seen.toNat e.label.toNat && !f e.label.toNat e.seen.toNat)=true then (0,0) else (18,0)) else (14,0):Ft).1=_
 cases ND[e.to.toNat]? with
 | none=>simp only [Option.map_none];split<;>rfl
 | some m=>
  simp only [Option.map_some];show (if e.ck=0 then _ else if m.al=BF e.ck then (if (f e.seen.toNat e.label.toNat && !f e.label.toNat e.seen.toNat)=true then (0,0) else (18,0)) else (14,0):Ft).1=_
  repeat' split
  all_goals rfl
theorem GV (f:Nat->Nat->Bool) (ND:List Nd):∀ l:List Ed,(effEs f (ND.map eU) (l.map iU)).1=(effEs f ND l).1
 | []=>rfl
 | e :: r=>by
  rw [List.map_cons,effEs,effEs,Lf];split
  ·exact GV f ND r
  ·exact Lf f ND e
theorem Lg (f:Nat->Nat->Bool) (ND:List Nd):∀ l:List Nd,(effN f (ND.map eU) (l.map eU)).1=(effN f ND l).1
 | []=>rfl
 | n :: r=>by
  have h:(effEs f (ND.map eU) (eU n).cB).1=(effEs f ND n.cB).1:=GV f ND n.cB;rw [List.map_cons,effN,effN,h];split
  ·exact Lg f ND r
  ·exact h
theorem Vg (S:Sch):me (aQ S)=me S:=by
 unfold me;show jL (aw S.ae).length (fT (aO (aw S.ae)) (S.order.map cg))=_;rw [iS,my,Dm]
theorem Dt (S:Sch):(uU (aQ S)).1=(uU S).1/\(uU (aQ S)).2.1=(uU S).2.1:=by
 have h1:=Ve S
 have h2:(chkA (depN (aW (aQ S)) (aW (aQ S)).length) (aW (aQ S))).1=(chkA (depN (aW S) (aW S).length) (aW S)).1:=by
  rw [pq,List.length_map,Le,Ld]
 have h3:(tT (me (aQ S)) (aW (aQ S))).1=(tT (me S) (aW S)).1:=by
  rw [pq,Vg];exact Lg _ _ _
 unfold uU;rw [h1,h2,h3]
 repeat' split
 all_goals first | exact ⟨rfl,rfl⟩ | exact ⟨rfl,h1⟩ | exact ⟨rfl,h2⟩ | exact ⟨rfl,h3⟩
theorem GW {a b:Sch} (h:aQ a=aQ b):(uU a).1=(uU b).1/\(uU a).2.1=(uU b).2.1/\(aW a).length=(aW b).length/\il a=il b:=by
 refine ⟨by rw [<- (Dt a).1,h,(Dt b).1],by rw [<- (Dt a).2,h,(Dt b).2],?_,by rw [<- zf,h,zf]⟩;have h1:=congrArg List.length (pq a);have h2:=congrArg List.length (pq b);rw [List.length_map] at h1 h2;rw [<- h1,h,h2]
theorem Sq:bA prog 22 [.v (.pointer none)] (.v (.int .i64 0)):=by
 refine eG 10 [.tmp 2] func22 rfl ntmps22 rfl fun _ _ _ _=>?_;exact (rfl:_=_)
theorem NG:bA prog 23 [.v (.pointer none)] (.v (.int .i64 (-1))):=by
 refine eG 9 [.tmp 2] func23 rfl ntmps23 rfl fun _ _ _ _=>?_;exact (rfl:_=_)
theorem Du (s:Sch) (cV:s.wt<=1000000000000) (hr:s5 s):bA prog 6 [.agg (iG s)] (.v (.bool true)):=by
 have Ig:=Dh;have ga:=CM s (by omega);have ho:=kB s (by omega);have f1:=NB s (by omega) hr;have hln:=Sq;have hrn:=NG
 have b1:dF s=true->(qK s).size<=65536->∃ T:Sch,Ev prog 11 [.v (.string (qK s))] [] [] (fun r _ _=>KR T (0,0) r)/\(uU T).1=(uU s).1/\(uU T).2.1=(uU s).2.1/\(aW T).length=(aW s).length/\il T=il s:=fun h hl=>by
  obtain ⟨e,di⟩:=NE h;obtain ⟨T,h1,h2⟩:=Ji h hr (by omega);rw [<- e] at h1;obtain ⟨_,s2,_⟩:=GU h2;exact ⟨T,Jc h1 (by omega),GW h2⟩
 have e0:dF s=false->qK s=⟨#[]⟩:=fun h=>by rw [qK,h,ag (by simp)]
 unfold OfΦ at ho;unfold KR at b1;have etx:∀ T,Zs T (0,0)=uU T:=fun T=>by rw [Zs,ah rfl]
 simp only [etx] at b1;clear etx;generalize dF s=R at b1 e0;generalize qK s=D at f1 b1 e0;have q7:(uU s).1=0->∀ PC,mc s (aW s) PC->bA prog 22 [.pt PC 0] (.v (.int .i64 (aW s).length))/\bA prog 23 [.pt PC 0] (.v (.int .i64 (il s))):=fun _ PC hP=>⟨hP.len,hP.root⟩;generalize uU s=ST at ho b1 q7;obtain ⟨sn,sf1,sf2⟩:=ST;simp only at ho b1 q7;obtain ⟨ae,order,types,⟨h,ps⟩⟩:=s;refine eG 62 [.tmp 2] func6 rfl ntmps6 rfl fun _ _ _ _=>?_;refine eo en14 rfl ga ax (fun r hr=>?_);obtain ⟨g,rfl⟩:=hr
 cases g with
 | true=>
  refine cP XL Ig ?_;exact (rfl:_=_)
 | false=>
 refine eo XN rfl ho ax (fun r hr=>?_);obtain ⟨p,rfl,hp⟩:=hr;refine cP en21 f1 ?_;refine br ?_ ?_<;>intro g
 ·refine cP XL Ig ?_;exact (rfl:_=_)
 have hR:R=true:=by
  cases hR:R with
  | true=>rfl
  | false=>
   rw [e0 hR] at g;exact absurd g (by decide)
 have hD:D.size<=65536:=by
  rcases Nat.lt_or_ge 65536 D.size with aE | hge
  ·have e:decide (65536 < (D.size:Int))=true:=decide_eq_true (by omega);rw [e] at g;exact absurd g (by simp [pickB])
  ·exact hge
 obtain ⟨T,q1,q2,q3,q4,q5⟩:=b1 hR hD;generalize uU T=SU at q1 q2 q3;obtain ⟨un,uf1,uf2⟩:=SU;simp only at q1 q2 q3;subst q2 q3;refine eo XM rfl q1 ax (fun r hr=>?_);obtain ⟨q,rfl,hq⟩:=hr
 have key:∃ a b:Int,bA prog 22 [p] (.v (.int .i64 a))/\bA prog 23 [p] (.v (.int .i64 b))/\bA prog 22 [q] (.v (.int .i64 a))/\bA prog 23 [q] (.v (.int .i64 b)):=by
  rcases hp with ⟨bo,rfl⟩ | ⟨h0,PC,hP,rfl⟩
  ·rcases hq with ⟨_,rfl⟩ | ⟨h1,_⟩
   ·exact ⟨0,-1,hln,hrn,hln,hrn⟩
   ·exact absurd h1 bo
  ·rcases hq with ⟨bo,_⟩ | ⟨_,PQ,hQ,rfl⟩
   ·exact absurd h0 bo
   ·have h1:=hQ.len;have h2:=hQ.root;rw [q4] at h1;rw [q5] at h2;exact ⟨_,_,hP.len,hP.root,h1,h2⟩
 obtain ⟨a,b,k1,k2,k3,k4⟩:=key;rcases hp with ⟨bo,rfl⟩ | ⟨h0,PC,hP,rfl⟩
 all_goals rcases hq with ⟨hne2,rfl⟩ | ⟨h1,PQ,hQ,rfl⟩
 all_goals
  refine br (fun _=>?_) (fun g=>absurd g (by simp [pickB]));refine cP Lw k1 ?_;refine cP Lw k3 ?_;refine br (fun _=>?_) (fun g=>absurd g (by simp [pickB,lastG]));refine cP aaP k2 ?_;refine cP aaP k4 ?_;refine br (fun _=>?_) (fun g=>absurd g (by simp [pickB,lastG]));refine cP XL Ig ?_;exact (rfl:_=_)
theorem again21_law (s:Sch) (hs:s.wt<=1000000000000) (hr:s5 s):bA prog 6 [.agg (iG s)] (.v (.bool true)):=Du s hs hr
end Go.Proofs.YtfdedoiiahbnnaaGreat
