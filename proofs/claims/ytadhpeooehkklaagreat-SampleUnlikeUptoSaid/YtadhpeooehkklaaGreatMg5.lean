/- Part 5 of the proof: What is known of the nodes of a plan; A plan, as its readers know it; Values, plain; how many are in one, how deep they lie; What is read of a value, as the plain data; What the frames of laws over values share; Values that are the same; Which values fit which nodes: plain, as the program finds it and as the document says it; tree's leaf, kids, Fits; tree.Fits; the document's To, Fits; Values as they are written: plain; tree.write, Raw; Paths: data, Step compared with itself; ref09.Begins, Same on the same path; ref25.Step; What is read of steps, and of steps with a value; How a list that came in is read; The least depths of the values of a plan's nodes: plain; Which nodes have several values: plain; How many unlike values nodes have: plain, as the document counts; The program's nodes, least depths; The document's least depths; fine; the chapter's example; The program's Depths; The law of least depths: fine, the example, the call returns true; The program's several, Several; The document's count, Many; the law of several values: the call returns true; The document's Many; the law of several values: the call returns true; First and second values: tags, sizes: plain; Regions that draw their order and only read: run with one state; Sample: the program's tags and sizes; Sample: the program's turn, part, first, changed; First and second values: the tables, the values: plain; Sample: the program's first, changed, second; First and second values, the document's: cut, depth, sum, tag; Sample: the program's second; First and second values, the document's: size, field, other; A region that draws its order, in which a new object may come at any time among calls: its run with the object made at each of these times serves every order; A region that draws its order, run by a schedule: at each point all that may come and has an effect is tried; Regions that draw their order, in which two new objects may come in either order. No condition. -/
import Derived.Test.YtadhpeooehkklaaGreatMg2
import Derived.Test.YtadhpeooehkklaaGreatMg3
import Derived.Test.YtadhpeooehkklaaGreatMg4
set_option linter.all false
set_option maxRecDepth 100000
namespace Go.Proofs.YtadhpeooehkklaaGreat
open Go Go.RowKit Dv Tryz
structure EdOK (L N:Nat) (e:Ed):Prop where
 to0:e.bare=true->e.to = -1
 to1:e.bare=false->∃ k:Nat,e.to=k/\k < N
 lab:∃ k:Nat,e.label=k/\k < L
 seen:∃ k:Nat,e.seen=k/\k < L
 wide:1<=e.wide/\e.wide<=64
 ck:0<=e.ck/\e.ck<=3
 cn:(e.ck=0->e.cn=0)/\(e.ck=1->1<=e.cn)/\(e.ck=2->0<=e.cn/\e.cn<=4096)/\(e.ck=3->e.cn=0)
structure NdOK (L N:Nat) (n:Nd):Prop where
 k1:1<=n.kind
 k8:n.kind<=8
 lohi:n.kind=2->n.lo<=n.hi
 lo0:n.kind≠2->n.lo=0/\n.hi=0
 most3:n.kind=3->0<=n.most/\n.most<=4096
 most5:n.kind=5->0<=n.most/\n.most<=1024
 most0:n.kind≠3->n.kind≠5->n.most=0
 names:n.kind=4->n.names ≠ []/\n.names.length<=64/\n.names.Nodup/\∀ s∈n.names,nameOK s=true
 names0:n.kind≠4->n.names=[]
 leaf:n.kind < 5->n.edges=[]
 one:n.kind=5∨n.kind=6->∃ e,n.edges=[e]/\e.bare=false/\e.name=emptyB
 many:n.kind=7∨n.kind=8->n.edges.length<=64/\(n.kind=8->n.edges ≠ [])/\(n.edges.map Ed.name).Nodup/\∀ e∈n.edges,nameOK e.name=true
 bare:∀ e∈n.edges,e.bare=true->n.kind=8
 edge:∀ e∈n.edges,EdOK L N e
theorem listed_all {l:List Wd} (h:∀ j x,l[j]? = some x->listedF l j x=0):(nmTx l).Nodup/\∀ x∈l,nameOK x.s=true:=by
 have key:∀ e,e<=l.length->(nmTx (l.take e)).Nodup:=by
  intro e
  induction e with
  | zero=>intro _;simp [nmTx]
  | succ e ih=>
   intro he;obtain ⟨x,hx⟩:∃ x,l[e]? = some x:=⟨_,gE (by omega)⟩;exact listed_nodup hx (ih (by omega)) (h e x hx)
 refine ⟨by have:=key l.length (Nat.le_refl _);rwa [List.take_length] at this,fun x hx=>?_⟩;obtain ⟨j,hj⟩:=List.mem_iff_getElem?.1 hx;have:=h j x hj;unfold listedF at this;cases hb:nameOK x.s
 ·rw [hb] at this;simp at this
 ·rfl
theorem enumL_all {all:List Wd}:∀ {l:List Wd} {i:Nat},(enumL all i l).1=0->∀ j x,l[j]? = some x->listedF all (i + j) x=0
 | [],i,_,j,x,hx=>by simp at hx
 | y :: r,i,h,j,x,hx=>by
  rw [enumL] at h;split at h
  ·rename_i h1;exact (h1 h).elim
  ·rename_i h1
   cases j with
   | zero=>
    simp only [List.getElem?_cons_zero,oI] at hx;subst hx;simpa using h1
   | succ j=>
    simp only [List.getElem?_cons_succ] at hx;have:=enumL_all h j x hx
    rwa [show i + 1 + j=i + (j + 1) by omega] at this
theorem enumWd_facts {h:Hd} (he:enumWd h=(0,0)):h.names ≠ []/\h.names.length<=64/\(nmTx h.names).Nodup/\∀ x∈h.names,nameOK x.s=true:=by
 unfold enumWd at he;split at he
 ·cases he
 ·rename_i h1;split at he
  ·cases he
  ·rename_i h2;refine ⟨h1,by omega,?_⟩
   exact listed_all fun j x hx=>by
    have:=enumL_all (all:=h.names) (i:=0) (by rw [he]) j x hx
    rwa [Nat.zero_add] at this
theorem knP_lab {X:Lx} {L:List ByteArray}:∀ {ps:Pts},(knP X L ps).1=0->∀ {p:Ph} {u:Ty},(p,u)∈ps.toList->(X.bad p.label).1=0/\(X.bad p.cl).1=0
 | .nil,_,p,u,h=>by cases h
 | .cons q v r,hk,p,u,h=>by
  have hr:=(knP_ok hk).2;rw [knP] at hk;split at hk
  ·rename_i h1;exact (h1 hk).elim
  rename_i h1;split at hk
  ·rename_i h2;exact (h2 hk).elim
  rename_i h2;rcases List.mem_cons.1 h with h | h
  ·cases h;exact ⟨by simpa using h1,by simpa using h2⟩
  ·exact knP_lab hr h
theorem wide_zero {p q:Ph} (h:plainP p q=true):p.bare=q.bare/\p.wide=q.wide/\p.ck=q.ck/\p.cn=q.cn:=by
 unfold plainP at h;simp only [Bool.and_eq_true,beq_iff_eq,decide_eq_true_eq] at h;exact ⟨h.1.1.1.1.1,h.1.1.1.1.2,h.1.1.2,h.1.2⟩
theorem wideF_ok {w:Int} (h:0<=w/\w<=64):1<=wideF w/\wideF w<=64:=by
 unfold wideF;split<;>omega
theorem coarseF_ok {p:Ph} (h:(coarseF p).1=0):(0<=p.ck/\p.ck<=3)/\(p.ck=0->p.cn=0)/\(p.ck=1->1<=p.cn)/\(p.ck=2->0<=p.cn/\p.cn<=4096)/\(p.ck=3->p.cn=0):=by
 unfold coarseF at h;by_cases c0:p.ck=0
 ·rw [if_pos c0] at h;by_cases c1:p.cn=0/\p.cl=[]
  ·exact ⟨by omega,fun _=>c1.1,by omega,by omega,by omega⟩
  ·rw [if_neg c1] at h;simp at h
 rw [if_neg c0] at h;by_cases c1:p.ck < 0∨3 < p.ck
 ·rw [if_pos c1] at h;simp at h
 rw [if_neg c1] at h;by_cases c2:(p.ck=1/\p.cn < 1)∨(p.ck=2/\(p.cn < 0∨4096 < p.cn))∨(p.ck=3/\p.cn≠0)
 ·rw [if_pos c2] at h;simp at h
 exact ⟨by omega,by omega,by omega,by omega,by omega⟩
theorem partWd_ok {p:Ph} (h:(partWd p).1=0):(0<=p.wide/\p.wide<=64)/\(coarseF p).1=0:=by
 unfold partWd at h;by_cases c0:p.wide < 0∨64 < p.wide
 ·rw [if_pos c0] at h;simp at h
 rw [if_neg c0] at h;by_cases c1:(labelF p.label).1≠0
 ·rw [if_pos c1] at h;exact absurd h c1
 rw [if_neg c1] at h;exact ⟨by omega,h⟩
theorem nn_pos {t:Ty} (h:t.h.kind≠9):1<=t.nn:=by
 obtain ⟨h',ps⟩:=t;have h:¬ h'.kind=9:=h;rw [Ty.nn,if_neg h];omega
theorem firstA_lt {S:Sch} {k:Nat} {x:Wd × Ty} (hx:S.types[k]? = some x):firstA S k + x.2.nn<=nnS (allT S):=by
 have h1:=firstA_succ hx;rw [<- h1]
 have h2:firstA S (k + 1)=nnS ((tysOf S).take (k + 1)):=by
  unfold firstA nnS tysOf;rw [<- List.map_take,List.map_map];rfl
 have h3:=nnS_take (tysOf S) (k + 1);have h4:nnS (allT S)=nnS (tysOf S) + nnS [S.root]:=nnS_app _ _;omega
theorem ndsA_get {lev:List Wd->Int} {s:Sch} {n:Nd}:∀ {l:List Ty} {k i:Nat},(ndsA lev s l k)[i]? = some n->∃ t∈l,∃ u∈flatT t,n=ndR lev s u (k + i)/\i + u.nn<=nnS l
 | [],k,i,h=>by simp [ndsA] at h
 | t :: r,k,i,h=>by
  rw [ndsA] at h;rw [nnS_cons];have hl:=ndsT_len lev s t k;by_cases hi:i < t.nn
  ·rw [List.getElem?_append_left (by omega),ndsT_eq,List.getElem?_map,List.getElem?_zipIdx] at h
   cases hu:(flatT t)[i]? with
   | none=>rw [hu] at h;simp at h
   | some u=>
    rw [hu] at h;simp only [Option.map_some,oI] at h;have:=flatT_pos t i u hu;exact ⟨t,List.mem_cons_self,u,mG hu,by rw [<- h];simp,by omega⟩
  ·rw [List.getElem?_append_right (by omega),hl] at h;obtain ⟨t',h1,u,h2,h3,h4⟩:=ndsA_get h;refine ⟨t',List.mem_cons_of_mem _ h1,u,h2,?_,by omega⟩;rw [h3];congr 1;omega
theorem resNds_len (S:Sch):(resNds S).length=nnS (allT S):=by rw [resNds_eq,ndsA_len]
theorem resNds_ok {S:Sch} (hF:FineS S) {i:Nat} {n:Nd} (h:(resNds S)[i]? = some n):NdOK S.levels.length (resNds S).length n:=by
 rw [resNds_len];rw [resNds_eq] at h;obtain ⟨t,ht,u,hu,rfl,hpos⟩:=ndsA_get h;rw [Nat.zero_add];have hwr:=flatT_wr t ⟨_,_,hF.wr t ht⟩ u hu;have hk:=flatT_kn t (hF.kn t ht) u hu;have hk9:=flatT_k9 t u hu;have hT:=tyF_of hwr;obtain ⟨hLat,_⟩:=latOK_of hF.lat;have hnl:=nmTx_len S.levels;have hends:=hF.ends;obtain ⟨uh,us⟩:=u;simp only [Ty.h,Ty.ps] at hT hk9;have hkp:=(knT_ok hk).2;have hown:=hT.own;unfold ownF at hown;simp only [Bool.and_eq_true,Bool.or_eq_true,decide_eq_true_eq] at hown;obtain ⟨⟨⟨⟨o1,o2⟩,o3⟩,o4⟩,o5⟩:=hown;have k1:=hT.k1;have k9:=hT.k9
 have hlv:∀ l:List Wd,(labW (nmTx S.levels) l).1=0->∃ k:Nat,levS S l=k/\k < S.levels.length:=by
  intro l hl;have:=labN_some (f:=leqN S.levels.length (numL (nmTx S.levels) S.order)) (L:=nmTx S.levels) (by rw [hnl];exact hLat) hl
  rwa [hnl] at this
 have hto:∀ (p:Ph) (v:Ty) (k':Nat),(p,v)∈us.toList->(p.bare=false->k' + v.nn<=i + 1 + us.nn)->(p.bare=true->toF S p v k' = -1)/\(p.bare=false->∃ k:Nat,toF S p v k'=k/\k < nnS (allT S)):=by
  intro p v k' hm hle;refine ⟨fun hb=>by simp [toF,hb],fun hb=>?_⟩;have hkv:=knP_mem hkp hm hb;obtain ⟨vh,vs⟩:=v;by_cases h9:vh.kind=9
  ·obtain ⟨j,hj⟩:=Option.ne_none_iff_exists'.1 ((knT_ok hkv).1 h9);have hjl:=(ixOf_some hj).1;rw [tL_len] at hjl;obtain ⟨k,hk⟩:=hends j hjl;have hkl:=endI_lt hk;obtain ⟨x,hx⟩:∃ x,S.types[k]? = some x:=⟨_,gE hkl.1⟩;have h1:=firstA_lt hx;have h2:=nn_pos (hkl.2 x hx);refine ⟨firstA S k,?_,by omega⟩;simp [toF,hb,idxF,Ty.h,h9,nmF,hj,namedN,hk]
  ·have h1:=nn_pos (t:=.mk vh vs) h9;have h2:=hle hb;have h3:(Ty.mk uh us).nn=1 + us.nn:=by rw [Ty.nn,if_neg hk9]
   refine ⟨k',by simp [toF,hb,idxF,Ty.h,h9],by omega⟩
 have hpart:∀ p v,(p,v)∈us.toList->(0<=p.wide/\p.wide<=64)/\(0<=p.ck/\p.ck<=3)/\((p.ck=0->p.cn=0)/\(p.ck=1->1<=p.cn)/\(p.ck=2->0<=p.cn/\p.cn<=4096)/\(p.ck=3->p.cn=0))/\(p.bare=true->uh.kind=8):=by
  intro p v hm;obtain ⟨j,hj⟩:=List.mem_iff_getElem?.1 hm
  have hlen:us.len≠0:=by
   cases us with
   | nil=>simp [Pts.toList] at hm
   | cons _ _ _=>simp [Pts.len]
  by_cases h5:uh.kind=5∨uh.kind=6
  ·obtain ⟨q,t',rfl,_,hpl,_,_,_⟩:=hT.one h5;simp only [Pts.toList,List.mem_singleton,Prod.mk.injEq] at hm;obtain ⟨rfl,rfl⟩:=hm;obtain ⟨w1,w2,w3,w4⟩:=wide_zero hpl;have z1:zeroPh.wide=0:=rfl;have z2:zeroPh.ck=0:=rfl;have z3:zeroPh.cn=0:=rfl;have z4:zeroPh.bare=false:=rfl;rw [z1] at w2;rw [z2] at w3;rw [z3] at w4;rw [z4] at w1;refine ⟨by omega,by omega,⟨by omega,by omega,by omega,by omega⟩,fun hb=>?_⟩;rw [w1] at hb;cases hb
  ·obtain ⟨_,hP⟩:=(hT.many (by omega)).2.2 j p v hj;rcases hP with ⟨hb,h8,_,hpl⟩ | ⟨hb,hp,_⟩
   ·obtain ⟨w1,w2,w3,w4⟩:=wide_zero hpl;have z1:barePh.wide=0:=rfl;have z2:barePh.ck=0:=rfl;have z3:barePh.cn=0:=rfl;rw [z1] at w2;rw [z2] at w3;rw [z3] at w4;exact ⟨by omega,by omega,⟨by omega,by omega,by omega,by omega⟩,fun _=>h8⟩
   ·obtain ⟨w1,w2⟩:=partWd_ok hp;obtain ⟨w3,w4⟩:=coarseF_ok w2;exact ⟨w1,w3,w4,fun h=>by rw [hb] at h;cases h⟩
 have hlen0:us.len=0->us = .nil:=fun h=>by
  cases us with
  | nil=>rfl
  | cons _ _ _=>simp [Pts.len] at h
 refine {
  k1:=k1
  k8:=by show uh.kind<=8;omega
  lohi:=hT.int
  lo0:=fun h2=>?_
  most3:=hT.text
  most5:=fun h5=>?_
  most0:=fun h3 h5=>?_
  names:=fun h4=>?_
  names0:=fun h4=>?_
  leaf:=fun h5=>?_
  one:=fun h5=>?_
  many:=fun h7=>?_
  bare:=fun e he hb=>?_
  edge:=fun e he=>?_ }
 ·show uh.lo=0/\uh.hi=0;exact o1.resolve_left h2
 ·obtain ⟨q,t',rfl,_,_,hm0,hm1,_⟩:=hT.one (.inl h5);exact ⟨hm0,hm1⟩
 ·show uh.most=0;exact o2.resolve_left (fun h=>h.elim h3 h5)
 ·obtain ⟨e1,e2,e3,e4⟩:=enumWd_facts (hT.enum h4);show nmTx uh.names ≠ []/\(nmTx uh.names).length<=64/\(nmTx uh.names).Nodup/\∀ s∈nmTx uh.names,nameOK s=true;refine ⟨fun h=>e1 (by simpa [nmTx] using h),by rw [nmTx_len];exact e2,e3,fun s hs=>?_⟩;unfold nmTx at hs;obtain ⟨w,hw,rfl⟩:=List.mem_map.1 hs;exact e4 w hw
 ·show nmTx uh.names=[];have:=o4.resolve_right h4;have:uh.names=[]:=List.eq_nil_of_length_eq_zero this;rw [this];all_goals rfl
 ·show edsP (levS S) S us (i + 1)=[];have hk5:uh.kind < 5:=h5;rw [hlen0 (o3.resolve_right (by omega))];rfl
 ·show ∃ e,edsP (levS S) S us (i + 1)=[e]/\_;obtain ⟨q,t',rfl,hn,hpl,_,_,_⟩:=hT.one h5;refine ⟨mkEd (levS S) q (toF S q t' (i + 1)),rfl,?_,hn⟩;exact (wide_zero hpl).1
 ·show (edsP (levS S) S us (i + 1)).length<=64/\(_->edsP (levS S) S us (i + 1) ≠ [])/\((edsP (levS S) S us (i + 1)).map Ed.name).Nodup/\∀ e∈edsP (levS S) S us (i + 1),nameOK e.name=true;obtain ⟨m1,m2,m3⟩:=hT.many h7
  have hall:∀ j x,(pNames us)[j]? = some x->listedF (pNames us) j x=0:=by
   intro j x hx
   have hj:j < us.len:=by
    have:=(gS hx).1
    rwa [pNames_len] at this
   obtain ⟨p,t',hp⟩:=Pts.get_lt hj;rw [pNames_get hp] at hx;simp only [oI] at hx;rw [<- hx];exact (m3 j p t' hp).1
  obtain ⟨n1,n2⟩:=listed_all hall;refine ⟨by rw [edsP_len];exact m1,fun h8 hn=>m2 h8 ?_,by rw [edsP_names];exact n1,fun e he=>?_⟩
  ·have:=edsP_len (levS S) S us (i + 1);rw [hn] at this;simpa using this.symm
  ·have:e.name∈nmTx (pNames us):=by rw [<- edsP_names (lev:=levS S) (s:=S) (k:=i + 1)];exact List.mem_map_of_mem he
   unfold nmTx at this;obtain ⟨w,hw,h⟩:=List.mem_map.1 this;rw [<- h];exact n2 w hw
 ·obtain ⟨p,v,k',h1,rfl,_⟩:=edsP_mem he;exact (hpart p v h1).2.2.2 hb
 ·obtain ⟨p,v,k',h1,rfl,h3⟩:=edsP_mem he;obtain ⟨h4,h5⟩:=hto p v k' h1 h3;obtain ⟨h6,h7,h8,_⟩:=hpart p v h1;obtain ⟨h9,h10⟩:=knP_lab hkp h1;exact { to0:=h4,to1:=h5,lab:=hlv _ h9,seen:=hlv _ h10,wide:=wideF_ok h6,ck:=h7,cn:=h8 }
theorem resRoot_ok {S:Sch} (hF:FineS S):∃ k:Nat,resRoot S=k/\k < (resNds S).length:=by
 rw [resNds_len];have hkr:=hF.kn S.root (by unfold allT;simp);have hends:=hF.ends;have hrl:=resN_len S;have hal:nnS (allT S)=nnS (tysOf S) + S.root.nn:=by unfold allT;rw [nnS_app];simp [nnS]
 unfold resRoot;obtain ⟨levels,order,types,⟨rh,rp⟩⟩:=S;simp only at hkr hends hal;by_cases h9:rh.kind=9
 ·obtain ⟨j,hj⟩:=Option.ne_none_iff_exists'.1 ((knT_ok hkr).1 h9);have hjl:=(ixOf_some hj).1;rw [tL_len] at hjl;obtain ⟨k,hk⟩:=hends j hjl;have hkl:=endI_lt hk;obtain ⟨x,hx⟩:∃ x,(Sch.mk levels order types (.mk rh rp)).types[k]? = some x:=⟨_,gE hkl.1⟩;have h1:=firstA_lt hx;have h2:=nn_pos (hkl.2 x hx);exact ⟨firstA ⟨levels,order,types,.mk rh rp⟩ k,by simp [idxF,Ty.h,h9,nmF,hj,namedN,hk],by omega⟩
 ·have h1:=nn_pos (t:=.mk rh rp) h9;exact ⟨(resN ⟨levels,order,types,.mk rh rp⟩).length,by simp [idxF,Ty.h,h9],by omega⟩
theorem ndsA_mem {lev:List Wd->Int} {s:Sch} {n:Nd}:∀ {l:List Ty} {k:Nat},n∈ndsA lev s l k->∃ t∈l,∃ u∈flatT t,∃ k',n=ndR lev s u k'
 | [],_,h=>by cases h
 | t :: r,k,h=>by
  rw [ndsA] at h;rcases List.mem_append.1 h with h | h
  ·rw [ndsT_eq] at h;obtain ⟨x,hx,rfl⟩:=List.mem_map.1 h;have:=(List.mem_zipIdx hx).2.2;refine ⟨t,List.mem_cons_self,x.1,?_,_,rfl⟩;rw [this];exact List.getElem_mem _
  ·obtain ⟨t',ht,h⟩:=ndsA_mem h;exact ⟨t',List.mem_cons_of_mem _ ht,h⟩
theorem resNds_sz {S:Sch} {n:Nd} (h:n∈resNds S) (hS:S.wt<=1099511627776):n.names.length<=1099511627776/\n.edges.length<=1099511627776:=by
 rw [resNds_eq] at h;obtain ⟨t,ht,u,hu,k,rfl⟩:=ndsA_mem h;have h1:=allT_wt hS t ht;have h2:=flatT_wt t u hu;obtain ⟨uh,us⟩:=u;have h3:=wdsWt_len uh.names;have h4:=us.wt_len;simp only [Ty.wt,Hd.wt] at h2;simp only [ndR,Ty.h,Ty.ps,nmTx_len,edsP_len];omega
abbrev zNd:List DV:=[.v (.int .i64 0),.v (.int .i64 0),.v (.int .i64 0),.v (.int .i64 0),.v (.int .i64 0),.v (.slice none 0 0),.v (.slice none 0 0)]
structure PlanR (S:Sch) (ND:List Nd) (PC:List DV):Prop where
 fine:FineS S
 wt:S.wt<=1099511627776
 nds:ND=resNds S
 ok:∀ n∈ND,NdOK S.levels.length ND.length n
 nl:ND.length<=1099511627776
 len:EvP Tryz.prog 103 [.pt PC 0] (.v (.int .i64 ND.length))
 root:EvP Tryz.prog 13 [.pt PC 0] (.v (.int .i64 (resRoot S)))
 node:∀ (i:Nat) n,ND[i]? = some n->EvP Tryz.prog 44 [.pt PC 0,.v (.int .i64 i)] (.tup [.agg (dNd n),.v (.bool true)])
 nodeN:∀ i:Int,(i < 0∨ND.length<=i)->EvP Tryz.prog 44 [.pt PC 0,.v (.int .i64 i)] (.tup [.agg zNd,.v (.bool false)])
 lat:∃ ord js,(lxOf S ord js).OK/\EvP Tryz.prog 139 [.pt PC 0] (lxOf S ord js).pd
theorem planR_of {S:Sch} {d:DV} (hS:S.wt<=1099511627776) (h0:(resF S).1=0) (hd:PlanD S d):∃ PC,d = .pt PC 0/\PlanR S (resNds S) PC:=by
 obtain ⟨ord,ord2,js,hX,hT,hol,rfl⟩:=hd;have hF:=fineS_of h0;have hsz:=fun n (h:n∈resNds S)=>resNds_sz h hS
 refine ⟨_,rfl,{
  fine:=hF
  wt:=hS
  nds:=rfl
  ok:=fun n hn=>?_
  nl:=by rw [resNds_len];exact Nat.le_trans (nnS_wt S) hS
  len:=plen_spec _ _ _ _ _ _
  root:=proot_spec _ _ _ _ _ _
  node:=fun i n h=>pnode_spec _ _ _ _ _ _ i n h (hsz n (mG h)).1 (hsz n (mG h)).2
  nodeN:=fun i h=>pnode_none _ _ _ _ _ _ i h
  lat:=⟨ord,js,hX,plat_spec _ _ _ _ _ _⟩ }⟩
 obtain ⟨i,hi⟩:=List.mem_iff_getElem?.1 hn;exact resNds_ok hF hi
def BuiltΦ (S:Sch) (r:DV):Prop:=((resF S).1≠0/\r = .tup [.v (.pointer none),(resF S).d])∨((resF S).1=0/\∃ PC,PlanR S (resNds S) PC/\r = .tup [.pt PC 0,Ft.d (0,0)])
theorem builtΦ_of {S:Sch} (hS:S.wt<=1099511627776) {r:DV} {os:List (List DV)} {tk:List TkE} (h:ResΦ S r os tk):BuiltΦ S r:=by
 unfold ResΦ at h;by_cases h0:(resF S).1=0
 ·rw [if_neg (by rw [h0];simp)] at h;obtain ⟨d,hd,rfl⟩:=h;obtain ⟨PC,rfl,hP⟩:=planR_of hS h0 hd;exact .inr ⟨h0,PC,hP,rfl⟩
 ·rw [if_pos h0] at h;exact .inl ⟨h0,h⟩
inductive Val where
 | mk (k n:Int) (s:ByteArray) (ks:List Val)
def Val.k:Val->Int | .mk k _ _ _=>k
def Val.n:Val->Int | .mk _ n _ _=>n
def Val.s:Val->ByteArray | .mk _ _ s _=>s
def Val.ks:Val->List Val | .mk _ _ _ ks=>ks
mutual
def dVal:Val->List DV
 | .mk k n s ks=>[.v (.int .i64 k),.v (.int .i64 n),.v (.string s),.sl 4 (dVals ks) none]
def dVals:List Val->List (List DV)
 | []=>[]
 | v :: r=>dVal v :: dVals r
end
theorem dVals_map:∀ l:List Val,dVals l=l.map dVal
 | []=>rfl
 | v :: r=>by rw [dVals,dVals_map r];all_goals rfl
theorem dVals_len (l:List Val):(dVals l).length=l.length:=by rw [dVals_map,List.length_map]
theorem dVals_get {l:List Val} {e:Nat} {x:Val} (h:l[e]? = some x):(dVals l)[e]? = some (dVal x):=by rw [dVals_map,List.getElem?_map,h];all_goals rfl
theorem dVals_snoc {l:List Val} {e:Nat} {x:Val} (h:l[e]? = some x):dVals (l.take e) ++ [dVal x]=dVals (l.take (e + 1)):=by
 rw [dVals_map,dVals_map,List.take_add_one,h];simp
mutual
def Val.wt:Val->Nat
 | .mk _ _ s ks=>64 + s.size + wtVs ks
def wtVs:List Val->Nat
 | []=>0
 | v :: r=>v.wt + wtVs r
end
theorem Val.wt_pos:∀ v:Val,64<=v.wt
 | .mk _ _ _ _=>by rw [Val.wt];omega
theorem wtVs_mem:∀ {l:List Val} {x:Val},x∈l->x.wt<=wtVs l
 | v :: r,x,h=>by
  rcases List.mem_cons.1 h with rfl | h
  ·rw [wtVs];omega
  ·have:=wtVs_mem h;rw [wtVs];omega
theorem wtVs_len:∀ l:List Val,64 * l.length<=wtVs l
 | []=>Nat.le_refl _
 | v :: r=>by
  have:=wtVs_len r;have:=v.wt_pos;rw [wtVs,List.length_cons];omega
mutual
def cntV:Val->Nat
 | .mk _ _ _ ks=>1 + cntVs ks
def cntVs:List Val->Nat
 | []=>0
 | v :: r=>cntV v + cntVs r
end
mutual
def depV:Val->Nat
 | .mk _ _ _ ks=>depVs ks + 1
def depVs:List Val->Nat
 | []=>0
 | v :: r=>max (depV v) (depVs r)
end
mutual
theorem cntV_wt:∀ v:Val,cntV v<=v.wt/\depV v<=v.wt
 | .mk _ _ _ ks=>by
  have:=cntVs_wt ks;rw [cntV,depV,Val.wt];omega
theorem cntVs_wt:∀ l:List Val,cntVs l<=wtVs l/\depVs l<=wtVs l
 | []=>⟨Nat.le_refl _,Nat.le_refl _⟩
 | v :: r=>by
  have h1:=cntV_wt v;have h2:=cntVs_wt r;rw [cntVs,depVs,wtVs];omega
end
theorem cntVs_snoc:∀ (l:List Val) (x:Val),cntVs (l ++ [x])=cntVs l + cntV x
 | [],x=>by simp [cntVs]
 | v :: r,x=>by rw [List.cons_append,cntVs,cntVs,cntVs_snoc r];omega
theorem take_snoc {α:Type} {l:List α} {e:Nat} {x:α} (h:l[e]? = some x):l.take (e + 1)=l.take e ++ [x]:=by rw [List.take_add_one,h];all_goals rfl
theorem cntVs_take (l:List Val):∀ e,cntVs (l.take e)<=wtVs l/\depVs (l.take e)<=wtVs l:=fun e=>by
 have h1:=cntVs_wt (l.take e)
 have h2:∀ (l:List Val) e,wtVs (l.take e)<=wtVs l:=by
  intro l
  induction l with
  | nil=>intro e;simp [wtVs]
  | cons v r ih=>
   intro e
   cases e with
   | zero=>simp [wtVs]
   | succ e=>have:=ih e;simp only [List.take_succ_cons,wtVs];omega
 have:=h2 l e;omega
abbrev ctSt (ks:List Val) (n e:Nat):St:=
 ⟨[(3,⟨[],.v (.int .i64 n)⟩),(7,⟨[],.sl 4 (dVals ks) none⟩),(8,⟨[],.v (.int .i64 (dVals ks).length)⟩),(9,⟨[],.v (.int .i64 e)⟩)],[],[]⟩
theorem tcount_spec:∀ (k:Nat) (v:Val),v.wt<=k->v.wt<=1099511627776->EvP Tryz.prog 19 [.agg (dVal v)] (.v (.int .i64 (cntV v:Nat)))
 | 0,v,h,_=>by have:=v.wt_pos;omega
 | k + 1,.mk q n s ks,h,hb=>by
  have ih:=tcount_spec k;have hdl:=dVals_len ks;have hkl:=wtVs_len ks;have htk:=cntVs_take ks;rw [Val.wt] at h hb;rw [cntV];refine ev_go (P:=Tryz.prog) tt tt_ok 5000 19 [.tmp 2] Tryz.func19 rfl Tryz.ntmps19 rfl (nL rfl) (fun E9 w9 hn9 hm9=>?_);refine loop_i (fun j st=>∃ e:Nat,st=ctSt ks (1 + cntVs (ks.take e)) e/\e<=ks.length/\j=ks.length - e) ks.length (ctSt ks 1 0) (weak_mk ⟨_,rfl⟩ wA rfl rfl rfl wB) ⟨0,rfl,by omega,by omega⟩ ?_;rintro j st ⟨e,rfl,he,rfl⟩;refine br (fun hL=>?_) (fun hL=>?_)
  ·have hlt:e < ks.length:=by have:=hL;simp [hdl] at this;exact this
   obtain ⟨x,hx⟩:∃ x,ks[e]? = some x:=⟨_,gE hlt⟩;have hxw:=wtVs_mem (mG hx);have hc:=cntVs_snoc (ks.take e) x;rw [<- take_snoc hx] at hc;have h1:=htk (e + 1);have hi:=ih x (by omega) (by omega);obtain ⟨xk,xn,xs,xl⟩:=x;refine ⟨_,⟨by omega,dVals_get hx⟩,?_⟩;refine call_p en19 (hi) ax rfl ?_;have hw:IntKind.i64.wrap (((1 + cntVs (ks.take e):Nat):Int) + ((cntV (.mk xk xn xs xl):Nat):Int))=((1 + cntVs (ks.take (e + 1)):Nat):Int):=by rw [wrap64 (by omega) (by omega)];omega
   exact ⟨ctSt ks (1 + cntVs (ks.take (e + 1))) (e + 1),(weak_mk ⟨_,rfl⟩ wA rfl rfl rfl (by repeat' (first | exact trivial | exact we_rfl rfl | exact we_int hw | exact we_int (nxt hlt (by omega)) | refine ⟨⟨_,rfl,?_⟩,?_⟩))),ks.length - (e + 1),by omega,e + 1,rfl,by omega,rfl⟩
  ·have hge:e=ks.length:=by have:=hL;simp [hdl] at this;omega
   subst hge;rw [List.take_length];exact (rfl:_=_)
end Go.Proofs.YtadhpeooehkklaaGreat
set_option maxRecDepth 100000
namespace Go.Proofs.YtadhpeooehkklaaGreat
open Go Go.RowKit Dv Tryz
end Go.Proofs.YtadhpeooehkklaaGreat
namespace Go.Proofs.YtadhpeooehkklaaGreat
open Go Go.RowKit Dv
end Go.Proofs.YtadhpeooehkklaaGreat
set_option maxRecDepth 100000
namespace Go.Proofs.YtadhpeooehkklaaGreat
open Go Go.RowKit Dv Tryz
mutual
def sameV:Val->Val->Bool
 | .mk k n s ks,.mk k' n' s' ks'=>decide (k=k') && decide (n=n') && decide (s=s') && sameVs ks ks'
def sameVs:List Val->List Val->Bool
 | [],[]=>true
 | v :: r,w :: q=>sameV v w && sameVs r q
 | _,_=>false
end
theorem sameVs_len:∀ {a b:List Val},a.length≠b.length->sameVs a b=false
 | [],[],h=>(h rfl).elim
 | v :: r,w :: q,h=>by rw [sameVs,sameVs_len (a:=r) (b:=q) (by simpa using h),Bool.and_false]
 | [],_ :: _,_=>by simp [sameVs]
 | _ :: _,[],_=>by simp [sameVs]
mutual
theorem sameV_iff:∀ {a b:Val},sameV a b=true↔a=b
 | .mk k n s ks,.mk k' n' s' ks'=>by
  have:=@sameVs_iff ks ks';simp only [sameV,Bool.and_eq_true,decide_eq_true_eq,this,Val.mk.injEq,and_assoc]
theorem sameVs_iff:∀ {a b:List Val},sameVs a b=true↔a=b
 | [],[]=>by simp [sameVs]
 | v :: r,w :: q=>by
  have h1:=@sameV_iff v w;have h2:=@sameVs_iff r q;simp only [sameVs,Bool.and_eq_true,h1,h2,List.cons.injEq]
 | [],_ :: _=>by simp [sameVs]
 | _ :: _,[]=>by simp [sameVs]
end
theorem sameV_refl (v:Val):sameV v v=true:=sameV_iff.2 rfl
abbrev eqvSt (a b:List Val) (g e:Nat):St:=
 ⟨[(1,⟨[],.sl 4 (dVals b) none⟩),(2,⟨[],.fn g [] []⟩),(15,⟨[],.sl 4 (dVals a) none⟩),(16,⟨[],.v (.int .i64 (dVals a).length)⟩),(17,⟨[],.v (.int .i64 e)⟩)],[],[]⟩
theorem equalV_spec (g:Nat) (hen:Enters Tryz.prog g) (a b:List Val) (hs:wtVs a<=1099511627776)
  (hF:∀ x∈a,∀ y,EvP Tryz.prog g [.agg (dVal x),.agg (dVal y)] (.v (.bool (sameV x y)))) :
  EvP Tryz.prog 59 [.sl 4 (dVals a) none,.sl 4 (dVals b) none,.fn g [] []] (.v (.bool (sameVs a b))):=by
 have hal:=wtVs_len a;have h1:=dVals_len a;have h2:=dVals_len b;refine ev_go (P:=Tryz.prog) tt tt_ok 5000 32 [.tmp 6] Tryz.func59 rfl Tryz.ntmps59 rfl (nL rfl) (fun E9 w9 hn9 hm9=>?_);refine br (fun h=>?_) (fun h=>?_)
 ·have hne:a.length≠b.length:=by have:=h;simp [h1,h2] at this;omega
  exact congrArg (fun b=>DV.v (.bool b)) (sameVs_len hne).symm
 ·have hl:a.length=b.length:=by have:=h;simp [h1,h2] at this;omega
  refine loop_i (fun j st=>∃ e:Nat,st=eqvSt a b g e/\e<=a.length/\sameVs a b=sameVs (a.drop e) (b.drop e)/\j=a.length - e) a.length
   (eqvSt a b g 0) (weak_mk ⟨_,rfl⟩ wA rfl rfl rfl wB) ⟨0,rfl,by omega,rfl,by omega⟩ ?_
  rintro j st ⟨e,rfl,he,heq,rfl⟩;refine br (fun h=>?_) (fun h=>?_)
  ·have hlt:e < a.length:=by simpa [h1] using h
   obtain ⟨x,hx⟩:∃ x,a[e]? = some x:=⟨_,gE hlt⟩;obtain ⟨y,hy⟩:∃ y,b[e]? = some y:=⟨_,gE (hl ▸ hlt)⟩;rw [drop_cons hx,drop_cons hy,sameVs] at heq;have hev:=hF x (mG hx) y;obtain ⟨xk,xn,xs,xl⟩:=x;obtain ⟨yk,yn,ys,yl⟩:=y;refine ⟨_,⟨by omega,dVals_get hx⟩,?_⟩;refine ⟨_,⟨by omega,dVals_get hy⟩,?_⟩;refine call_p hen hev ax rfl ?_;refine br (fun h=>?_) (fun h=>?_)
   ·have hne:sameV (.mk xk xn xs xl) (.mk yk yn ys yl)=false:=by simpa using h
    refine (congrArg (fun b=>DV.v (.bool b)) ?_:_=_);rw [heq,hne,Bool.false_and]
   ·have hne:sameV (.mk xk xn xs xl) (.mk yk yn ys yl)=true:=by simpa using h
    rw [hne,Bool.true_and] at heq;exact ⟨eqvSt a b g (e + 1),(weak_mk ⟨_,rfl⟩ wA rfl rfl rfl (wNB hlt)),a.length - (e + 1),by omega,e + 1,rfl,by omega,heq,rfl⟩
  ·have hge:e=a.length:=by have:=h;simp [h1] at this;omega
   rw [List.drop_of_length_le (by omega),List.drop_of_length_le (by omega)] at heq;refine (congrArg (fun b=>DV.v (.bool b)) ?_:_=_);rw [heq];simp [sameVs]
theorem tsame_spec:∀ (k:Nat) (a:Val),a.wt<=k->a.wt<=1099511627776->∀ b:Val,EvP Tryz.prog 18 [.agg (dVal a),.agg (dVal b)] (.v (.bool (sameV a b)))
 | 0,v,h,_=>by have:=v.wt_pos;omega
 | k + 1,.mk q n s ks,h,hb=>fun b=>by
  have ih:=tsame_spec k;rw [Val.wt] at h hb;obtain ⟨bk,bn,bs,bl⟩:=b
  have he:=equalV_spec 18 en18 ks bl (by omega) fun x hx y=>by
   have:=wtVs_mem hx;exact ih x (by omega) (by omega) y
  rw [sameV];refine ev_go (P:=Tryz.prog) tt tt_ok 5000 31 [.tmp 4] Tryz.func18 rfl Tryz.ntmps18 rfl (nL rfl) (fun E9 w9 hn9 hm9=>?_);refine br (fun c=>?_) (fun c=>?_)
  ·have c:pickB (pickB (decide (q=bk)) (decide (n=bn)) false) (decide (s=bs)) false=true:=by simpa using c
   refine call_p en59 (he) ax rfl ?_;refine (congrArg (fun b=>DV.v (.bool b)) ?_:_=_);simp only [pickB_and] at c ⊢;rw [c]
  ·have c:pickB (pickB (decide (q=bk)) (decide (n=bn)) false) (decide (s=bs)) false=false:=by simpa using c
   refine (congrArg (fun b=>DV.v (.bool b)) ?_:_=_);simp only [pickB_and] at c ⊢;rw [c];all_goals rfl
def leafF (n:Nd) (v:Val):Bool:=
 if 0 < v.ks.length∨(v.k≠3/\v.s≠emptyB)∨(v.k=3/\v.n≠0) then false
 else if n.kind=1 then decide (v.k=1) && (decide (v.n=0) || decide (v.n=1))
 else if n.kind=2 then decide (v.k=2) && decide (n.lo<=v.n) && decide (v.n<=n.hi)
 else if n.kind=3 then decide (v.k=3) && decide ((v.s.size:Int)<=n.most)
 else decide (v.k=4) && decide (0<=v.n) && decide (v.n < n.names.length)
def plainV (v:Val):Bool:=decide (v.s=emptyB) && (decide (v.n=0) || decide (v.k=8))
def to0 (n:Nd):Int:=match n.edges[0]? with | some e=>e.to | none=>0
def tagE (n:Nd) (v:Val):Option Ed:=if v.k=8/\0<=v.n/\v.n < n.edges.length then n.edges[v.n.toNat]? else none
def kidsL (n:Nd) (v:Val):List Int:=
 if n.kind=5∨n.kind=6 then List.replicate v.ks.length (to0 n)
 else if n.kind=7 then n.edges.map Ed.to
 else match tagE n v with | none=>[] | some e=>if e.bare=true then [] else [e.to]
def kidsB (n:Nd) (v:Val):Bool:=
 if n.kind=5∨n.kind=6 then plainV v && decide (v.k=n.kind) && decide ((v.ks.length:Int)<=if n.kind=6 then 1 else n.most)
 else if n.kind=7 then plainV v && decide (v.k=7) && decide (n.edges.length=v.ks.length)
 else match tagE n v with | none=>false | some _=>plainV v && decide ((kidsL n v).length=v.ks.length)
def nodeA (ND:List Nd) (i:Int):Option Nd:=if i < 0 then none else ND[i.toNat]?
mutual
def fitV (ND:List Nd):Val->Int->Bool
 | .mk k n s ks,i=>match nodeA ND i with
  | none=>false
  | some d=>if d.kind < 5 then leafF d (.mk k n s ks) else kidsB d (.mk k n s ks) && fitVs ND ks (kidsL d (.mk k n s ks))
def fitVs (ND:List Nd):List Val->List Int->Bool
 | v :: r,i :: l=>fitV ND v i && fitVs ND r l
 | _,_=>true
end
def dZs (l:List Int):List (List DV):=l.map fun z=>[DV.v (.int .i64 z)]
theorem dZs_len (l:List Int):(dZs l).length=l.length:=by simp [dZs]
theorem dZs_get {l:List Int} {i:Nat} {z:Int} (h:l[i]? = some z):(dZs l)[i]? = some [DV.v (.int .i64 z)]:=by simp [dZs,h]
theorem dZs_snoc (l:List Int) (z:Int):dZs l ++ [[DV.v (.int .i64 z)]]=dZs (l ++ [z]):=by simp [dZs]
theorem emptyB_eq:(⟨#[]⟩:ByteArray)=emptyB:=rfl
theorem leaf_spec (n:Nd) (v:Val):EvP Tryz.prog 53 [.agg (dNd n),.agg (dVal v)] (.v (.bool (leafF n v))):=by
 have hbl:=dBs_len n.names;obtain ⟨kind,at',lo,hi,most,names,es⟩:=n;obtain ⟨q,z,s,ks⟩:=v;have hdl:=dVals_len ks;simp only at hbl
 have hF:leafF ⟨kind,at',lo,hi,most,names,es⟩ (.mk q z s ks)=if 0 < ks.length∨(q≠3/\s≠emptyB)∨(q=3/\z≠0) then false
  else if kind=1 then decide (q=1) && (decide (z=0) || decide (z=1))
  else if kind=2 then decide (q=2) && decide (lo<=z) && decide (z<=hi)
  else if kind=3 then decide (q=3) && decide ((s.size:Int)<=most)
  else decide (q=4) && decide (0<=z) && decide (z < names.length):=rfl
 have hc:∀ b:Bool,b=pickB (pickB (decide (0 < ((dVals ks).length:Int))) true (pickB (!decide (q=3)) (!decide (s=⟨#[]⟩)) false)) true (pickB (decide (q=3)) (!decide (z=0)) false)->b=decide (0 < ks.length∨(q≠3/\s≠emptyB)∨(q=3/\z≠0)):=fun b h=>by
  rw [h,hdl,emptyB_eq,Bool.eq_iff_iff];simp [pickB_or,pickB_and,or_assoc]
 rw [hF];refine ev_go (P:=Tryz.prog) tt tt_ok 5000 94 [.tmp 4] Tryz.func53 rfl Tryz.ntmps53 rfl (nL rfl) (fun E9 w9 hn9 hm9=>?_);refine br (fun c=>?_) (fun c=>?_)
 ·have c:=of_decide_eq_true ((hc _ rfl).symm.trans c);rw [if_pos c];exact (rfl:_=_)
 have c:=of_decide_eq_false ((hc _ rfl).symm.trans c);rw [if_neg c];refine br (fun c1=>?_) (fun c1=>?_)
 ·have c1:kind=1:=by simpa using c1
  refine (congrArg (fun b=>DV.v (.bool b)) ?_:_=_);simp [c1,pickB_and,pickB_or]
 have c1:¬ kind=1:=by simpa using c1
 refine br (fun c2=>?_) (fun c2=>?_)
 ·have c2:kind=2:=by simpa using c2
  refine (congrArg (fun b=>DV.v (.bool b)) ?_:_=_);simp [c2,pickB_and,pickB_or]
 have c2:¬ kind=2:=by simpa using c2
 refine br (fun c3=>?_) (fun c3=>?_)
 ·have c3:kind=3:=by simpa using c3
  refine (congrArg (fun b=>DV.v (.bool b)) ?_:_=_);simp [c3,pickB_and,pickB_or]
 have c3:¬ kind=3:=by simpa using c3
 refine (congrArg (fun b=>DV.v (.bool b)) ?_:_=_);simp [c1,c2,c3,pickB_and,pickB_or,hbl]
abbrev kd5St (n:Nd) (v:Val) (l:List Int) (p:Bool) (kd mo:Int) (q e:Nat):St:=
 ⟨[(2,⟨[],.loc 0 0⟩),(3,⟨[],.loc 1 0⟩),(6,⟨[],.sl 1 (dZs l) (some 0)⟩),(7,⟨[],.v (.bool p)⟩),(8,⟨[],.v (.int .i64 kd)⟩),(9,⟨[],.v (.int .i64 mo)⟩),(38,⟨[],.v (.int .i64 v.ks.length)⟩),(39,⟨[],.v (.int .i64 e)⟩)],[dNd n,dVal v],[⟨q,3,1,none⟩]⟩
abbrev kd7St (n:Nd) (v:Val) (l:List Int) (p:Bool) (q e:Nat):St:=
 ⟨[(2,⟨[],.loc 0 0⟩),(3,⟨[],.loc 1 0⟩),(6,⟨[],.sl 1 (dZs l) (some 0)⟩),(7,⟨[],.v (.bool p)⟩),(67,⟨[],.sl 10 (dEds n.edges) none⟩),(68,⟨[],.v (.int .i64 (dEds n.edges).length)⟩),(69,⟨[],.v (.int .i64 e)⟩)],[dNd n,dVal v],[⟨q,3,1,none⟩]⟩
theorem kids_spec {L N:Nat} {n:Nd} (hn:NdOK L N n) (h5:5<=n.kind) (v:Val) (hv:v.wt<=1099511627776) :
  EvP Tryz.prog 54 [.agg (dNd n),.agg (dVal v)] (.tup [.sl 1 (dZs (kidsL n v)) none,.v (.bool (kidsB n v))]):=by
 have hk8:=hn.k8;have hone:=hn.one;have hmany:=hn.many;obtain ⟨kind,at',lo,hi,most,names,es⟩:=n;obtain ⟨q,z,s,ks⟩:=v;have hdl:=dVals_len ks;have hel:=dEds_len es;have hkl:=wtVs_len ks;rw [Val.wt] at hv;simp only at hk8 h5 hone hmany
 have hp:∀ b:Bool,b=pickB (decide (s=⟨#[]⟩)) (pickB (decide (z=0)) true (decide (q=8))) false->b=plainV (.mk q z s ks):=fun b h=>by
  rw [h];rw [pickB_and,pickB_or,emptyB_eq];all_goals rfl
 refine ev_go (P:=Tryz.prog) tt tt_ok 5000 134 [.tmp 4,.tmp 5] Tryz.func54 rfl Tryz.ntmps54 rfl (nL rfl) (fun E9 w9 hn9 hm9=>?_);refine br (fun c=>?_) (fun c=>?_)
 ·have c:kind=5:=by simpa using c
  have c56:kind=5∨kind=6:=.inl c;obtain ⟨x,hes,_,_⟩:=hone c56;refine br (fun _=>?_) (fun h=>absurd h (by simp [c]));refine drawG_i (fun _=>false) mo (by decide +kernel) ?_;refine br (fun h=>absurd h (by simp [c])) (fun _=>?_);obtain ⟨kd,mo,h1,h2,h3,h4⟩:∃ kd mo:Int,5=kd/\most=mo/\kd=kind/\mo=(if kind=6 then 1 else most):=⟨5,most,rfl,rfl,c.symm,by rw [if_neg (by omega)]⟩;have hg0:(dEds es)[0]? = some (dEd x):=by rw [hes];all_goals rfl
  have ht0:to0 ⟨kind,at',lo,hi,most,names,es⟩=x.to:=by simp [to0,hes]
  refine loop_i (fun j st=>∃ e:Nat,st=kd5St ⟨kind,at',lo,hi,most,names,es⟩ (.mk q z s ks) (List.replicate e x.to) (plainV (.mk q z s ks)) kd mo e e/\e<=ks.length/\j=ks.length - e) ks.length (kd5St ⟨kind,at',lo,hi,most,names,es⟩ (.mk q z s ks) [] (plainV (.mk q z s ks)) kd mo 0 0) (weak_bt 2 ⟨0,3,1,none⟩ rfl rfl rfl (by repeat' (first | exact rfl | exact we_rfl rfl | exact we_bool (hp _ rfl) | exact we_int h1 | exact we_int h2 | exact we_int (congrArg Nat.cast hdl) | exact we_tok (Nat.le_refl _) rfl | exact we_tok (Nat.le_refl _) rfl | refine ⟨_,_,rfl,?_,?_⟩)) rfl rfl (by repeat' (first | exact trivial | exact we_rfl rfl | exact we_bool (hp _ rfl) | exact we_int h1 | exact we_int h2 | exact we_int (congrArg Nat.cast hdl) | exact we_tok (Nat.le_refl _) rfl | refine ⟨⟨_,rfl,?_⟩,?_⟩))) ⟨0,rfl,by omega,by omega⟩ ?_;rintro j st ⟨e,rfl,he,rfl⟩;refine br (fun hL=>?_) (fun hL=>?_)
  ·have hlt:e < ks.length:=by have:=hL;simp [Val.ks] at this;exact this
   have hml:(dZs (List.replicate e x.to)).length=e:=by rw [dZs_len,List.length_replicate]
   have hsn:dZs (List.replicate e x.to) ++ [[DV.v (.int .i64 x.to)]]=dZs (List.replicate (e + 1) x.to):=by rw [dZs_snoc,List.replicate_succ']
   refine ⟨_,⟨by omega,hg0⟩,?_⟩;refine ⟨hml,⟨by rw [hml];simp [maxLen];omega,by rw [hml];simp;omega⟩,?_⟩;exact ⟨kd5St ⟨kind,at',lo,hi,most,names,es⟩ (.mk q z s ks) (List.replicate (e + 1) x.to) (plainV (.mk q z s ks)) kd mo (e + 1) (e + 1),(weak_b 2 rfl (wSA hlt hsn) rfl rfl rfl (wSB hlt hsn)),ks.length - (e + 1),by omega,e + 1,rfl,by omega,rfl⟩
  ·have hge:e=ks.length:=by have:=hL;simp [Val.ks] at this;omega
   subst hge;have hkl2:kidsL ⟨kind,at',lo,hi,most,names,es⟩ (.mk q z s ks)=List.replicate ks.length x.to:=by unfold kidsL;rw [if_pos c56,ht0];all_goals rfl
   have hml:(dZs (List.replicate ks.length x.to)).length=ks.length:=by rw [dZs_len,List.length_replicate]
   have hB:pickB (pickB (plainV (.mk q z s ks)) (decide (q=kd)) false) (decide (((dZs (List.replicate ks.length x.to)).length:Int)<=mo)) false=kidsB ⟨kind,at',lo,hi,most,names,es⟩ (.mk q z s ks):=by
    rw [hml,h3,h4,pickB_and,pickB_and];unfold kidsB;rw [if_pos c56];rfl
   rw [hkl2];exact ⟨_,(aB hB),rfl⟩
 have c5:¬ kind=5:=by simpa using c
 refine br (fun c=>?_) (fun c=>?_)
 ·have c:kind=6:=by simpa using c
  have c56:kind=5∨kind=6:=.inr c;obtain ⟨x,hes,_,_⟩:=hone c56;refine drawG_i (fun _=>false) mo (by decide +kernel) ?_;refine br (fun _=>?_) (fun h=>absurd h (by simp [c]));obtain ⟨kd,mo,h1,h2,h3,h4⟩:∃ kd mo:Int,6=kd/\1=mo/\kd=kind/\mo=(if kind=6 then 1 else most):=⟨6,1,rfl,rfl,c.symm,by rw [if_pos c]⟩;have hg0:(dEds es)[0]? = some (dEd x):=by rw [hes];all_goals rfl
  have ht0:to0 ⟨kind,at',lo,hi,most,names,es⟩=x.to:=by simp [to0,hes]
  refine loop_i (fun j st=>∃ e:Nat,st=kd5St ⟨kind,at',lo,hi,most,names,es⟩ (.mk q z s ks) (List.replicate e x.to) (plainV (.mk q z s ks)) kd mo e e/\e<=ks.length/\j=ks.length - e) ks.length (kd5St ⟨kind,at',lo,hi,most,names,es⟩ (.mk q z s ks) [] (plainV (.mk q z s ks)) kd mo 0 0) (weak_bt 2 ⟨0,3,1,none⟩ rfl rfl rfl (by repeat' (first | exact rfl | exact we_rfl rfl | exact we_bool (hp _ rfl) | exact we_int h1 | exact we_int h2 | exact we_int (congrArg Nat.cast hdl) | exact we_tok (Nat.le_refl _) rfl | exact we_tok (Nat.le_refl _) rfl | refine ⟨_,_,rfl,?_,?_⟩)) rfl rfl (by repeat' (first | exact trivial | exact we_rfl rfl | exact we_bool (hp _ rfl) | exact we_int h1 | exact we_int h2 | exact we_int (congrArg Nat.cast hdl) | exact we_tok (Nat.le_refl _) rfl | refine ⟨⟨_,rfl,?_⟩,?_⟩))) ⟨0,rfl,by omega,by omega⟩ ?_;rintro j st ⟨e,rfl,he,rfl⟩;refine br (fun hL=>?_) (fun hL=>?_)
  ·have hlt:e < ks.length:=by have:=hL;simp [Val.ks] at this;exact this
   have hml:(dZs (List.replicate e x.to)).length=e:=by rw [dZs_len,List.length_replicate]
   have hsn:dZs (List.replicate e x.to) ++ [[DV.v (.int .i64 x.to)]]=dZs (List.replicate (e + 1) x.to):=by rw [dZs_snoc,List.replicate_succ']
   refine ⟨_,⟨by omega,hg0⟩,?_⟩;refine ⟨hml,⟨by rw [hml];simp [maxLen];omega,by rw [hml];simp;omega⟩,?_⟩;exact ⟨kd5St ⟨kind,at',lo,hi,most,names,es⟩ (.mk q z s ks) (List.replicate (e + 1) x.to) (plainV (.mk q z s ks)) kd mo (e + 1) (e + 1),(weak_b 2 rfl (wSA hlt hsn) rfl rfl rfl (wSB hlt hsn)),ks.length - (e + 1),by omega,e + 1,rfl,by omega,rfl⟩
  ·have hge:e=ks.length:=by have:=hL;simp [Val.ks] at this;omega
   subst hge;have hkl2:kidsL ⟨kind,at',lo,hi,most,names,es⟩ (.mk q z s ks)=List.replicate ks.length x.to:=by unfold kidsL;rw [if_pos c56,ht0];all_goals rfl
   have hml:(dZs (List.replicate ks.length x.to)).length=ks.length:=by rw [dZs_len,List.length_replicate]
   have hB:pickB (pickB (plainV (.mk q z s ks)) (decide (q=kd)) false) (decide (((dZs (List.replicate ks.length x.to)).length:Int)<=mo)) false=kidsB ⟨kind,at',lo,hi,most,names,es⟩ (.mk q z s ks):=by
    rw [hml,h3,h4,pickB_and,pickB_and];unfold kidsB;rw [if_pos c56];rfl
   rw [hkl2];exact ⟨_,(aB hB),rfl⟩
 have c6:¬ kind=6:=by simpa using c
 obtain ⟨hm64,hm8,_,_⟩:=hmany (by omega);refine br (fun c=>?_) (fun c=>?_)
 ·have c7:kind=7:=by simpa using c
  refine loop_i (fun j st=>∃ e:Nat,st=kd7St ⟨kind,at',lo,hi,most,names,es⟩ (.mk q z s ks) ((es.take e).map Ed.to) (plainV (.mk q z s ks)) e e/\e<=es.length/\j=es.length - e) es.length (kd7St ⟨kind,at',lo,hi,most,names,es⟩ (.mk q z s ks) [] (plainV (.mk q z s ks)) 0 0) (weak_bt 2 ⟨0,3,1,none⟩ rfl rfl rfl (by repeat' (first | exact rfl | exact we_rfl rfl | exact we_bool (hp _ rfl) | exact we_tok (Nat.le_refl _) rfl | exact we_tok (Nat.le_refl _) rfl | refine ⟨_,_,rfl,?_,?_⟩)) rfl rfl (by repeat' (first | exact trivial | exact we_rfl rfl | exact we_bool (hp _ rfl) | exact we_tok (Nat.le_refl _) rfl | refine ⟨⟨_,rfl,?_⟩,?_⟩))) ⟨0,rfl,by omega,by omega⟩ ?_;rintro j st ⟨e,rfl,he,rfl⟩;refine br (fun hL=>?_) (fun hL=>?_)
  ·have hlt:e < es.length:=by have:=hL;simp [hel] at this;exact this
   obtain ⟨x,hx⟩:∃ x,es[e]? = some x:=⟨_,gE hlt⟩;have hml:(dZs ((es.take e).map Ed.to)).length=e:=by rw [dZs_len,List.length_map,List.length_take];omega
   have hsn:dZs ((es.take e).map Ed.to) ++ [[DV.v (.int .i64 x.to)]]=dZs ((es.take (e + 1)).map Ed.to):=by rw [dZs_snoc,take_snoc hx,List.map_append];all_goals rfl
   refine ⟨_,⟨by omega,dEds_get hx⟩,?_⟩;refine ⟨hml,⟨by rw [hml];simp [maxLen];omega,by rw [hml];simp;omega⟩,?_⟩;exact ⟨kd7St ⟨kind,at',lo,hi,most,names,es⟩ (.mk q z s ks) ((es.take (e + 1)).map Ed.to) (plainV (.mk q z s ks)) (e + 1) (e + 1),(weak_b 2 rfl (wSA hlt hsn) rfl rfl rfl (wSB hlt hsn)),es.length - (e + 1),by omega,e + 1,rfl,by omega,rfl⟩
  ·have hge:e=es.length:=by have:=hL;simp [hel] at this;omega
   subst hge;rw [List.take_length];have hkl2:kidsL ⟨kind,at',lo,hi,most,names,es⟩ (.mk q z s ks)=es.map Ed.to:=by unfold kidsL;rw [if_neg (by simp only;omega),if_pos c7]
   have hml:(dZs (es.map Ed.to)).length=es.length:=by rw [dZs_len,List.length_map]
   have hB:pickB (pickB (plainV (.mk q z s ks)) (decide (q=7)) false) (decide (((dZs (es.map Ed.to)).length:Int)=((dVals ks).length:Int))) false=kidsB ⟨kind,at',lo,hi,most,names,es⟩ (.mk q z s ks):=by
    rw [hml,hdl,pickB_and,pickB_and];unfold kidsB;rw [if_neg (by simp only;omega),if_pos c7];have:((es.length:Int)=(ks.length:Int))↔es.length=ks.length:=by omega
    simp only [this,Val.k,Val.ks];rfl
   rw [hkl2];refine drawG_i (fun _=>false) mo (by decide +kernel) ?_;exact ⟨_,(aB hB),rfl⟩
 have c7:¬ kind=7:=by simpa using c
 have hkl2:kidsL ⟨kind,at',lo,hi,most,names,es⟩ (.mk q z s ks)=(match tagE ⟨kind,at',lo,hi,most,names,es⟩ (.mk q z s ks) with | none=>[] | some e=>if e.bare=true then [] else [e.to]):=by unfold kidsL;rw [if_neg (by simp only;omega),if_neg c7];all_goals rfl
 have hkb2:kidsB ⟨kind,at',lo,hi,most,names,es⟩ (.mk q z s ks)=(match tagE ⟨kind,at',lo,hi,most,names,es⟩ (.mk q z s ks) with | none=>false | some _=>plainV (.mk q z s ks) && decide ((kidsL ⟨kind,at',lo,hi,most,names,es⟩ (.mk q z s ks)).length=ks.length)):=by unfold kidsB;rw [if_neg (by simp only;omega),if_neg c7];all_goals rfl
 have hc:∀ b:Bool,b=pickB (pickB (!decide (q=8)) true (decide (z < 0))) true (decide (((dEds es).length:Int)<=z))->b = !decide (q=8/\0<=z/\z < es.length):=fun b h=>by
  rw [h,hel,pickB_or,pickB_or,Bool.eq_iff_iff];simp;omega
 refine br (fun c=>?_) (fun c=>?_)
 ·have c:¬ (q=8/\0<=z/\z < es.length):=by have:=(hc _ rfl).symm.trans c;simpa only [Bool.not_eq_true',decide_eq_false_iff_not] using this
  have ht:tagE ⟨kind,at',lo,hi,most,names,es⟩ (.mk q z s ks)=none:=by show (if q=8/\0<=z/\z < es.length then es[z.toNat]? else none)=_;rw [if_neg c]
  rw [hkb2,hkl2,ht];exact ⟨_,ax,rfl⟩
 ·have c:q=8/\0<=z/\z < es.length:=by have:=(hc _ rfl).symm.trans c;simpa only [Bool.not_eq_false',decide_eq_true_eq] using this
  obtain ⟨x,hx⟩:∃ x,es[z.toNat]? = some x:=⟨_,gE (by omega)⟩;have ht:tagE ⟨kind,at',lo,hi,most,names,es⟩ (.mk q z s ks)=some x:=by show (if q=8/\0<=z/\z < es.length then es[z.toNat]? else none)=_;rw [if_pos c];exact hx
  rw [ht] at hkb2 hkl2;refine ⟨_,⟨by omega,dEds_get hx⟩,?_⟩;refine br (fun hb=>?_) (fun hb=>?_)
  ·have hb:x.bare=false:=by simpa using hb
   have hkl3:kidsL ⟨kind,at',lo,hi,most,names,es⟩ (.mk q z s ks)=[x.to]:=by rw [hkl2];simp [hb]
   have hB:pickB (plainV (.mk q z s ks)) (decide ((1:Int)=((dVals ks).length:Int))) false=kidsB ⟨kind,at',lo,hi,most,names,es⟩ (.mk q z s ks):=by
    rw [hkb2,hkl3,hdl,pickB_and];have:((1:Int)=(ks.length:Int)) ↔ [x.to].length=ks.length:=by simp;omega
    simp only [this]
   rw [hkl3,<- hB];refine ⟨⟨by simp [maxLen],by simp⟩,?_⟩;refine drawG_i (fun _=>false) mo (by decide +kernel) ?_;exact ⟨_,(by repeat' (first | exact rfl | exact trivial | exact Or.inr (Or.inl ⟨_,rfl⟩) | exact Or.inr ⟨_,rfl⟩ | exact Or.inl ⟨rfl,rfl⟩ | exact Or.inl rfl | refine Or.inr ⟨_,_,rfl,Nat.zero_le _,rfl,?_⟩ | refine ⟨_,_,rfl,?_,?_⟩ | refine ⟨_,rfl,?_⟩ | exact congrArg (fun b=>DV.v (.bool (pickB b _ false))) (hp _ rfl) | refine Or.inr (Or.inr (Or.inr ⟨_,_,rfl,?_⟩)) | exact Or.inl rfl | refine Or.inr ?_)),rfl⟩
  ·have hb:x.bare=true:=by simpa using hb
   have hkl3:kidsL ⟨kind,at',lo,hi,most,names,es⟩ (.mk q z s ks)=[]:=by rw [hkl2];simp [hb]
   have hB:pickB (plainV (.mk q z s ks)) (decide ((0:Int)=((dVals ks).length:Int))) false=kidsB ⟨kind,at',lo,hi,most,names,es⟩ (.mk q z s ks):=by
    rw [hkb2,hkl3,hdl,pickB_and];have:((0:Int)=(ks.length:Int))↔([]:List Int).length=ks.length:=by simp;omega
    simp only [this]
   rw [hkl3,<- hB];refine drawG_i (fun _=>false) mo (by decide +kernel) ?_;exact ⟨_,(by repeat' (first | exact rfl | exact trivial | exact Or.inr (Or.inl ⟨_,rfl⟩) | exact Or.inr ⟨_,rfl⟩ | exact Or.inl ⟨rfl,rfl⟩ | exact Or.inl rfl | refine Or.inr ⟨_,_,rfl,Nat.zero_le _,rfl,?_⟩ | refine ⟨_,_,rfl,?_,?_⟩ | refine ⟨_,rfl,?_⟩ | exact congrArg (fun b=>DV.v (.bool (pickB b _ false))) (hp _ rfl) | refine Or.inr (Or.inr (Or.inr ⟨_,_,rfl,?_⟩)) | exact Or.inl rfl | refine Or.inr ?_)),rfl⟩
theorem kidsB_len {n:Nd} {v:Val} (hk:5<=n.kind) (h:kidsB n v=true):(kidsL n v).length=v.ks.length:=by
 unfold kidsB at h;by_cases c:n.kind=5∨n.kind=6
 ·unfold kidsL;rw [if_pos c];simp
 rw [if_neg c] at h;by_cases c7:n.kind=7
 ·rw [if_pos c7] at h;unfold kidsL;rw [if_neg c,if_pos c7,List.length_map];simp at h;exact h.2
 rw [if_neg c7] at h
 cases ht:tagE n v with
 | none=>rw [ht] at h;cases h
 | some e=>rw [ht] at h;simp only [Bool.and_eq_true,decide_eq_true_eq] at h;exact h.2
theorem fitVs_drop {ND:List Nd} {ks:List Val} {l:List Int} {e:Nat} {x:Val} {i:Int} (h1:ks[e]? = some x) (h2:l[e]? = some i):fitVs ND (ks.drop e) (l.drop e)=(fitV ND x i && fitVs ND (ks.drop (e + 1)) (l.drop (e + 1))):=by
 rw [drop_cons h1,drop_cons h2,fitVs]
theorem nodeA_some {ND:List Nd} {i:Int} {d:Nd} (h:nodeA ND i=some d):0<=i/\ND[i.toNat]? = some d:=by
 unfold nodeA at h;split at h
 ·cases h
 ·exact ⟨by omega,h⟩
theorem nodeA_none {ND:List Nd} {i:Int} (h:nodeA ND i=none):i < 0∨(ND.length:Int)<=i:=by
 unfold nodeA at h;split at h
 ·left;assumption
 ·right;have:=List.getElem?_eq_none_iff.1 h;omega
abbrev tfSt (PC:List DV) (v:Val) (l:List Int) (e:Nat):St:=
 ⟨[(0,⟨[],.pt PC 0⟩),(5,⟨[],.loc 0 0⟩),(36,⟨[],.sl 1 (dZs l) none⟩),(37,⟨[],.v (.int .i64 l.length)⟩),(38,⟨[],.v (.int .i64 e)⟩)],[dVal v],[]⟩
theorem tfits_spec {S:Sch} {ND:List Nd} {PC:List DV} (hP:PlanR S ND PC):∀ (k:Nat) (v:Val),v.wt<=k->v.wt<=1099511627776->∀ i:Int,EvP Tryz.prog 14 [.pt PC 0,.v (.int .i64 i),.agg (dVal v)] (.v (.bool (fitV ND v i)))
 | 0,v,h,_=>by have:=v.wt_pos;omega
 | k + 1,.mk q z s ks,h,hb=>fun i=>by
  have ih:=tfits_spec hP k;have hkl:=wtVs_len ks;have hdl:=dVals_len ks;have hb':=hb;rw [Val.wt] at h hb;rw [fitV];have hnode:=hP.node;have hnodeN:=hP.nodeN;have hok:=hP.ok
  cases hd:nodeA ND i with
  | none=>
   refine ev_go (P:=Tryz.prog) tt tt_ok 5000 53 [.tmp 6] Tryz.func14 rfl Tryz.ntmps14 rfl (nL rfl) (fun E9 w9 hn9 hm9=>?_);refine call_p en44 (hnodeN i (nodeA_none hd)) ax rfl ?_;exact (rfl:_=_)
  | some d=>
   obtain ⟨h0,hg⟩:=nodeA_some hd;obtain ⟨j,rfl⟩:∃ j:Nat,i=j:=⟨i.toNat,by omega⟩;have hg:ND[j]? = some d:=by simpa using hg
   have hN:=hok d (mG hg);have hlf:=leaf_spec d (.mk q z s ks);have hkd:=fun h5=>kids_spec hN h5 (.mk q z s ks) hb';have hlen:=fun h5=>kidsB_len (n:=d) (v:=.mk q z s ks) h5;simp only;obtain ⟨kind,at',lo,hi,most,names,es⟩:=d;simp only at hkd hlen;refine ev_go (P:=Tryz.prog) tt tt_ok 5000 53 [.tmp 6] Tryz.func14 rfl Tryz.ntmps14 rfl (nL rfl) (fun E9 w9 hn9 hm9=>?_);refine call_p en44 (hnode j _ hg) ax rfl ?_;refine br (fun c=>?_) (fun c=>?_)
   ·have c:kind < 5:=by simpa using c
    rw [if_pos c];refine call_p en53 (hlf) ax rfl ?_;exact (rfl:_=_)
   have c:¬ kind < 5:=by simpa using c
   rw [if_neg c];have hkd:=hkd (by omega);have hlen:=hlen (by omega);generalize kidsL ⟨kind,at',lo,hi,most,names,es⟩ (.mk q z s ks)=l at hkd hlen ⊢;have hzl:=dZs_len l;refine call_p en54 (hkd) ax rfl ?_
   cases hB:kidsB ⟨kind,at',lo,hi,most,names,es⟩ (.mk q z s ks) with
   | false=>
    exact (rfl:_=_)
   | true=>
    have hlen:l.length=ks.length:=hlen hB;rw [Bool.true_and];refine loop_i (fun j st=>∃ e:Nat,st=tfSt PC (.mk q z s ks) l e/\e<=l.length/\fitVs ND ks l=fitVs ND (ks.drop e) (l.drop e)/\j=l.length - e) l.length (tfSt PC (.mk q z s ks) l 0) (weak_mk ⟨_,rfl⟩ wA rfl rfl rfl (by repeat' (first | exact trivial | exact we_rfl rfl | exact we_int (congrArg Nat.cast hzl) | refine ⟨⟨_,rfl,?_⟩,?_⟩))) ⟨0,rfl,by omega,rfl,by omega⟩ ?_;rintro _ st ⟨e,rfl,he,heq,rfl⟩;refine br (fun hL=>?_) (fun hL=>?_)
    ·have hlt:e < l.length:=by have:=hL;simp at this;exact this
     obtain ⟨x,hx⟩:∃ x,ks[e]? = some x:=⟨_,gE (by omega)⟩;obtain ⟨y,hy⟩:∃ y,l[e]? = some y:=⟨_,gE hlt⟩;have hxw:=wtVs_mem (mG hx);rw [fitVs_drop hx hy] at heq;have hi':=ih x (by omega) (by omega) y;obtain ⟨xk,xn,xs,xl⟩:=x;refine ⟨_,⟨by omega,dZs_get hy⟩,?_⟩;refine ⟨_,⟨by omega,dVals_get hx⟩,?_⟩;refine call_p en14 (hi') ax rfl ?_;refine br (fun g=>?_) (fun g=>?_)
     ·have g:fitV ND (.mk xk xn xs xl) y=false:=by simpa using g
      rw [heq,g];exact (rfl:_=_)
     ·have g:fitV ND (.mk xk xn xs xl) y=true:=by simpa using g
      rw [g,Bool.true_and] at heq;exact ⟨tfSt PC (.mk q z s ks) l (e + 1),(weak_mk ⟨_,rfl⟩ wA rfl rfl rfl (wNB hlt)),l.length - (e + 1),by omega,e + 1,rfl,by omega,heq,rfl⟩
    ·have hge:e=l.length:=by have:=hL;simp at this;omega
     rw [List.drop_of_length_le (by omega),List.drop_of_length_le (by omega)] at heq;rw [heq];exact (rfl:_=_)
structure FitF (ND:List Nd) (v:Val) (i:Int) (d:Nd):Prop where
 node:nodeA ND i=some d
 k:v.k=d.kind
 leaf:d.kind < 5->v.ks=[]
 enum:d.kind=4->0<=v.n/\v.n < d.names.length
 kids:5<=d.kind->(kidsL d v).length=v.ks.length/\fitVs ND v.ks (kidsL d v)=true
 tag:d.kind=8->∃ e,tagE d v=some e/\d.edges[v.n.toNat]? = some e/\0<=v.n/\v.n < d.edges.length/\(e.bare=true↔v.ks=[])
 opt:d.kind=6->v.ks.length<=1
theorem fit_facts {L:Nat} {ND:List Nd} (hok:∀ n∈ND,NdOK L ND.length n) {v:Val} {i:Int} (h:fitV ND v i=true):∃ d,FitF ND v i d:=by
 obtain ⟨k,n,s,ks⟩:=v;rw [fitV] at h
 cases hd:nodeA ND i with
 | none=>rw [hd] at h;cases h
 | some d=>
  rw [hd] at h;simp only at h;have hN:=hok d (mG (nodeA_some hd).2);have hk1:=hN.k1;have hk8:=hN.k8;by_cases h5:d.kind < 5
  ·rw [if_pos h5] at h;unfold leafF at h;by_cases hc:0 < (Val.mk k n s ks).ks.length∨((Val.mk k n s ks).k≠3/\(Val.mk k n s ks).s≠emptyB)∨((Val.mk k n s ks).k=3/\(Val.mk k n s ks).n≠0)
   ·rw [if_pos hc] at h;cases h
   rw [if_neg hc] at h
   have hnil:ks=[]:=by
    cases ks with
    | nil=>rfl
    | cons a b=>exact (hc (.inl (by simp [Val.ks]))).elim
   have hk:k=d.kind/\(d.kind=4->0<=n/\n < d.names.length):=by
    rcases (show d.kind=1∨d.kind=2∨d.kind=3∨d.kind=4 by omega) with c | c | c | c
    all_goals
     simp [c,Val.k,Val.n] at h;simp only [c];constructor
     ·first | exact of_decide_eq_true h.1 | exact of_decide_eq_true h.1.1
     ·first | (intro;omega) | exact fun _=>⟨of_decide_eq_true h.1.2,of_decide_eq_true h.2⟩
   exact ⟨d,{ node:=hd,k:=hk.1,leaf:=fun _=>hnil,enum:=hk.2,kids:=fun h=>by omega,tag:=fun h=>by omega,opt:=fun h=>by omega }⟩
  ·rw [if_neg h5,Bool.and_eq_true] at h;obtain ⟨hB,hf⟩:=h;have hlen:=kidsB_len (by omega) hB;have hB2:=hB;unfold kidsB at hB;by_cases c:d.kind=5∨d.kind=6
   ·rw [if_pos c] at hB;simp only [Bool.and_eq_true,decide_eq_true_eq] at hB;exact ⟨d,{ node:=hd,k:=hB.1.2,leaf:=fun h=>by omega,enum:=fun h=>by omega,kids:=fun _=>⟨hlen,hf⟩,tag:=fun h=>by omega,opt:=fun h=>by have:=hB.2;rw [if_pos h] at this;omega }⟩
   rw [if_neg c] at hB;by_cases c7:d.kind=7
   ·rw [if_pos c7] at hB;simp only [Bool.and_eq_true,decide_eq_true_eq] at hB;exact ⟨d,{ node:=hd,k:=by rw [c7];exact hB.1.2,leaf:=fun h=>by omega,enum:=fun h=>by omega,kids:=fun _=>⟨hlen,hf⟩,tag:=fun h=>by omega,opt:=fun h=>by omega }⟩
   rw [if_neg c7] at hB
   cases ht:tagE d (.mk k n s ks) with
   | none=>rw [ht] at hB;cases hB
   | some e=>
    have ht2:=ht;unfold tagE at ht2;split at ht2
    ·rename_i hr;have hkl:kidsL d (.mk k n s ks)=if e.bare=true then [] else [e.to]:=by unfold kidsL;rw [if_neg c,if_neg c7,ht]
     refine ⟨d,{ node:=hd,k:=by have:=hr.1;omega,leaf:=fun h=>by omega,enum:=fun h=>by omega,kids:=fun _=>⟨hlen,hf⟩,tag:=fun _=>⟨e,ht,ht2,hr.2.1,hr.2.2,?_⟩,opt:=fun h=>by omega }⟩;rw [hkl] at hlen;constructor
     ·intro hb;rw [if_pos hb] at hlen;exact List.eq_nil_of_length_eq_zero hlen.symm
     ·intro hnil;rw [hnil] at hlen;cases hb:e.bare
      ·rw [hb] at hlen;simp at hlen
      ·rfl
    ·cases ht2
theorem fitVs_at {ND:List Nd}:∀ {ks:List Val} {l:List Int} {e:Nat} {x:Val} {i:Int},fitVs ND ks l=true->ks[e]? = some x->l[e]? = some i->fitV ND x i=true
 | [],_,e,x,i,_,h,_=>by simp at h
 | _ :: _,[],e,x,i,_,_,h=>by simp at h
 | v :: r,j :: l,0,x,i,h,h1,h2=>by
  simp only [List.getElem?_cons_zero,oI] at h1 h2;subst h1 h2;rw [fitVs,Bool.and_eq_true] at h;exact h.1
 | v :: r,j :: l,e + 1,x,i,h,h1,h2=>by
  simp only [List.getElem?_cons_succ] at h1 h2;rw [fitVs,Bool.and_eq_true] at h;exact fitVs_at h.2 h1 h2
structure Stp where
 k:Int
 n:Int
 s:ByteArray
def dStp (x:Stp):List DV:=[.v (.int .i64 x.k),.v (.int .i64 x.n),.v (.string x.s)]
def dStps (l:List Stp):List (List DV):=l.map dStp
theorem dStps_len (l:List Stp):(dStps l).length=l.length:=by simp [dStps]
theorem dStps_get {l:List Stp} {e:Nat} {x:Stp} (h:l[e]? = some x):(dStps l)[e]? = some (dStp x):=by simp [dStps,h]
def stpE (a b:Stp):Bool:=decide (a.k=b.k) && (decide (a.n=b.n) && decide (a.s=b.s))
theorem stpE_iff {a b:Stp}:stpE a b=true↔a=b:=by
 obtain ⟨k,n,s⟩:=a;obtain ⟨k',n',s'⟩:=b;simp only [stpE,Bool.and_eq_true,decide_eq_true_eq,Stp.mk.injEq]
def stpA (a:Stp):Array Value:=#[.int .i64 a.k,.int .i64 a.n,.string a.s]
theorem stp_equal (a b:Stp) (w:World):(Op.equal 117 (.agg (stpA a)) (.agg (stpA b))).run Tryz.prog w = .ok (stpE a b) w:=by
 have hf:Tryz.prog.underlying 117=some (.struct (Tryz.prog.fieldsOf 117)):=by simp [Program.fieldsOf,Tryz.underlying117]
 have hf2:(Tryz.prog.fieldsOf 117).toList=[⟨ "Kind",3,0,false, "", "",0⟩,⟨ "N",3,1,false, "", "",8⟩,⟨ "Name",9,2,false, "", "",16⟩]:=by simp [Program.fieldsOf,Tryz.underlying117]
 have hs:Tryz.prog.stoodInHeld 117=false:=by kernel_rfl
 obtain ⟨d,hm⟩:∃ d,Op.maxDepth=d + 1 + 1:=⟨Op.maxDepth - 2,by decide⟩
 have q9:∀ cs:Array Value,∀ off v,cs[off]? = some v->(part 9 cs off).run Tryz.prog w = .ok v w:=fun cs off v h=>by
  simp [part,Tryz.isAgg9,h]
 have q3:∀ cs:Array Value,∀ off v,cs[off]? = some v->(part 3 cs off).run Tryz.prog w = .ok v w:=fun cs off v h=>by
  simp [part,Tryz.isAgg3,h]
 have g0:=fun x:Stp=>q3 (stpA x) 0 (.int .i64 x.k) rfl;have g1:=fun x:Stp=>q3 (stpA x) 1 (.int .i64 x.n) rfl;have g2:=fun x:Stp=>q9 (stpA x) 2 (.string x.s) rfl;have r9:=fun a b=>run_equalIn_string w d 9 a b Tryz.underlying9;have r3:=fun a b=>run_equalIn_int w d 3 .i64 .i64 a b Tryz.underlying3
 have e1:(a.s.toList == b.s.toList)=decide (a.s=b.s):=by
  rw [ByteArray.toList_eq,ByteArray.toList_eq];by_cases h:a.s=b.s
  ·rw [h];simp
  ·have:¬ a.s.data=b.s.data:=fun e=>h (ByteArray.ext e);simp [h,this]
 unfold Op.equal;rw [hm,run_equalIn_struct w (d + 1) 117 _ _ hf hs,hf2];simp only [Op.eqFields,ne_eq,String.reduceEq,not_false_eq_true,if_true,Sem.run_bind,g0,g1,g2,r9,r3,Result.andThen_ok];by_cases h1:a.k=b.k
 ·by_cases h2:a.n=b.n
  ·by_cases h3:a.s=b.s
   ·simp [h1,h2,h3,stpE,Sem.run_pure,r3,r9,g1,g2]
   ·simp [h1,h2,h3,stpE,Sem.run_pure,r3,r9,g1,g2,e1]
  ·simp [h1,h2,stpE,Sem.run_pure,r3,g1]
 ·simp [h1,stpE,Sem.run_pure]
theorem stp_guard (o:BinOp) (ho:o = .eql∨o = .neq) (w:World) (x y:Operand) (vs vs':Array Value):(eqGuard o 117 x y (.agg vs) (.agg vs')).run Tryz.prog w = .ok () w:=by
 have h:Tryz.prog.eqGuardType Tryz.prog.depth 117=false:=by kernel_rfl
 rcases ho with rfl | rfl<;>simp [eqGuard,run_program,h]
theorem stp_eql (x y:Operand) (a b:Stp):AggCmp Tryz.prog .eql x y 117 (dStp a) (dStp b) (stpE a b):=
 ⟨[.int .i64 a.k,.int .i64 a.n,.string a.s],[.int .i64 b.k,.int .i64 b.n,.string b.s],rfl,rfl,fun w=>⟨stp_guard _ (.inl rfl) w x y _ _,by
  show ((do let r <- Op.equal 117 (.agg (stpA a)) (.agg (stpA b));pure (Value.bool r)):Sem Value).run Tryz.prog w=_
  simp only [Sem.run_bind,stp_equal,Result.andThen_ok,Sem.run_pure]⟩⟩
def stpR (d:Nd) (v:Val) (j:Nat):Stp:=
 if d.kind=5 then ⟨2,j,emptyB⟩
 else if d.kind=6 then ⟨4,0,emptyB⟩
 else if d.kind=7 then ⟨1,0,match d.edges[j]? with | some e=>e.name | none=>emptyB⟩
 else ⟨5,0,match d.edges[v.n.toNat]? with | some e=>e.name | none=>emptyB⟩
theorem cells_step:Tryz.prog.cellsOf 117=3:=by kernel_rfl
def rngStp (p:List Stp):Prop:=∀ s∈p,(-9223372036854775808<=s.k/\s.k<=9223372036854775807)/\(-9223372036854775808<=s.n/\s.n<=9223372036854775807)
def wtStp:List Stp->Nat
 | []=>0
 | s :: p=>64 + s.s.size + wtStp p
theorem wtStp_len:∀ p:List Stp,64 * p.length<=wtStp p
 | []=>Nat.le_refl _
 | s :: p=>by
  have:=wtStp_len p;rw [wtStp,List.length_cons];omega
theorem wtStp_mem:∀ {p:List Stp} {s:Stp},s∈p->s.s.size<=wtStp p
 | s :: p,x,h=>by
  rcases List.mem_cons.1 h with rfl | h
  ·rw [wtStp];omega
  ·have:=wtStp_mem h;rw [wtStp];omega
theorem typ_stps {m:Nat}:∀ {es:List (List DV)},(∀ cs∈es,Typ Tryz.prog m 117 cs)->∃ p:List Stp,es=dStps p/\rngStp p/\wtStp p<=wgEs es
 | [],h=>⟨[],rfl,(fun _ h=>by cases h),by simp [wtStp]⟩
 | cs :: r,h=>by
  obtain ⟨p,rfl,hr,hl⟩:=typ_stps (es:=r) (fun c hc=>h c (List.mem_cons_of_mem _ hc));obtain ⟨m',rfl,hf⟩:=typ_st Tryz.underlying117 (h cs (by simp));obtain ⟨a1,b1,rfl,h1,a2,b2,rfl,h2,a3,b3,rfl,h3,rfl⟩:=hf;obtain ⟨k,rfl,hk⟩:=typ_i h1;obtain ⟨z,rfl,hz⟩:=typ_i h2;obtain ⟨s,rfl⟩:=typ_str Tryz.underlying9 h3;refine ⟨⟨k,z,s⟩ :: p,rfl,fun x hx=>?_,?_⟩
  ·rcases List.mem_cons.1 hx with rfl | hx
   ·exact ⟨hk,hz⟩
   ·exact hr x hx
  ·simp only [wtStp,wgEs,wgL_append,wgL,wgD] at *;omega
theorem typ_path {n:Nat} {ds:List DV} (h:Typ Tryz.prog n 59 ds):∃ p:List Stp,ds=[.sl 3 (dStps p) none]/\rngStp p/\wtStp p<=wgL ds:=by
 obtain ⟨j,es,rfl,rfl,hes⟩:=typ_sl Tryz.underlying59 h;obtain ⟨p,rfl,hr,hl⟩:=typ_stps hes;rw [cells_step];exact ⟨p,rfl,hr,by simp only [wgL,wgD];omega⟩
def tyPS:List TypeId:=[59,117,9,3]
theorem tyPS_ok:∀ t∈tyPS,flatOK Tryz.prog tyPS t=true:=by
 have h:(tyPS.all fun t=>flatOK Tryz.prog tyPS t)=true:=by kernel_rfl
 exact fun t ht=>List.all_eq_true.1 h t ht
namespace Dv
open Go.ChangeShapes Go.WideShapes Go.ChangeAt
theorem arg_sl {H:Type} {enc:TypeId × Value->H} {P:Program} {W:World} {base:Nat} {S:List TypeId} {bk:DataW H->Nat} (hbk:Bk bk) (hS:∀ t∈S,flatOK P S t=true) {t e:TypeId} {v:Value} {d:DataW H} {ps:List MemPlace} (ht:t∈S) (hu:P.underlying t=some (.slice e))
  (hval:Value.okWide P W .any base t v) (h:DataW.Trod enc P W 0 (fun _=>true) true t v d ps):∃ n x,Rv (enW W) x v/\Typ P n t [x]/\wgL [x]<=64 * bk d:=by
 obtain ⟨a,len,cap,rfl⟩:=okWide_slice hu hval;obtain ⟨n,hn⟩:=h;obtain ⟨ds,h1,h2,h3,h4,h5⟩:=rd_trod hbk hS n t _ _ ht hn
 cases ds with
 | nil=>simp only [RvL,Value.cells] at h1;cases h1
 | cons x r=>
  simp only [RvL,Value.cells] at h1;obtain ⟨u,s,h6,h7,h8⟩:=h1;have h6:Value.slice a len cap=u/\s=[]:=by simpa [eq_comm] using h6
  obtain ⟨rfl,rfl⟩:=h6
  cases r with
  | nil=>exact ⟨n,x,h7,h3,h4⟩
  | cons y r=>
   simp only [RvL] at h8;obtain ⟨_,_,h9,_⟩:=h8;cases h9
end Dv
def edN (K:List Nat) (e:Ed):Nat:=K.getD e.to.toNat 0
def leastR (K:List Nat):List Ed->Nat->Nat
 | [],m=>m + 1
 | e :: r,m=>if edN K e=0 then 0 else leastR K r (max m (edN K e))
def leastU (K:List Nat):List Ed->Nat->Nat
 | [],b=>if b=0 then 0 else b + 1
 | e :: r,b=>if e.bare=true then 1 else if 0 < edN K e/\(b=0∨edN K e < b) then leastU K r (edN K e) else leastU K r b
def leastF (n:Nd) (K:List Nat):Nat:=if n.kind=7 then leastR K n.edges 0 else if n.kind=8 then leastU K n.edges 0 else 1
def depN (ND:List Nd):Nat->List Nat
 | 0=>List.replicate ND.length 0
 | d + 1=>ND.map fun n=>leastF n (depN ND d)
theorem depN_len (ND:List Nd):∀ d,(depN ND d).length=ND.length
 | 0=>by simp [depN]
 | d + 1=>by simp [depN]
theorem depN_get (ND:List Nd) (d j:Nat):(depN ND (d + 1)).getD j 0=match ND[j]? with | none=>0 | some n=>leastF n (depN ND d):=by
 simp only [depN,List.getD_eq_getElem?_getD,List.getElem?_map];cases ND[j]?<;>rfl
def RndR (d:Nat) (A B:List Nat):Prop:=∀ j:Nat,(0 < A.getD j 0->B.getD j 0=A.getD j 0/\A.getD j 0<=d)/\(A.getD j 0=0->B.getD j 0=0∨B.getD j 0=d + 1)
theorem rndR_le {d:Nat} {A B:List Nat} (h:RndR d A B) (j:Nat):B.getD j 0<=d + 1:=by
 obtain ⟨h1,h2⟩:=h j;rcases Nat.eq_zero_or_pos (A.getD j 0) with h3 | h3
 ·rcases h2 h3 with h4 | h4<;>omega
 ·have:=h1 h3;omega
theorem leastR_zero {K:List Nat}:∀ {es:List Ed} {m:Nat},leastR K es m=0↔∃ e∈es,edN K e=0
 | [],m=>by simp [leastR]
 | e :: r,m=>by
  rw [leastR];by_cases h:edN K e=0
  ·rw [if_pos h];exact ⟨fun _=>⟨e,by simp,h⟩,fun _=>rfl⟩
  ·rw [if_neg h,leastR_zero];constructor
   ·rintro ⟨x,hx,h2⟩;exact ⟨x,by simp [hx],h2⟩
   ·rintro ⟨x,hx,h2⟩;rcases List.mem_cons.1 hx with rfl | hx
    ·exact (h h2).elim
    ·exact ⟨x,hx,h2⟩
theorem leastR_same {d:Nat} {A B:List Nat} (hR:RndR d A B):∀ {es:List Ed} {m:Nat},0 < leastR A es m->leastR B es m=leastR A es m
 | [],m,_=>rfl
 | e :: r,m,h=>by
  rw [leastR] at h ⊢;rw [leastR];by_cases h0:edN A e=0
  ·rw [if_pos h0] at h;omega
  rw [if_neg h0] at h ⊢;have h1:edN B e=edN A e:=((hR e.to.toNat).1 (by unfold edN at h0;omega)).1;rw [h1,if_neg h0];exact leastR_same hR h
theorem leastR_new {d:Nat} {A B:List Nat} (hR:RndR d A B):∀ {es:List Ed} {m:Nat},m<=d + 1->(m=d + 1∨∃ e∈es,edN A e=0)->leastR B es m=0∨leastR B es m=d + 2
 | [],m,_,h=>by
  rcases h with h | ⟨e,he,_⟩
  ·right;rw [leastR,h]
  ·cases he
 | e :: r,m,hm,h=>by
  rw [leastR];by_cases h0:edN B e=0
  ·rw [if_pos h0];exact .inl rfl
  rw [if_neg h0];have hle:edN B e<=d + 1:=rndR_le hR _;refine leastR_new hR (by omega) ?_;rcases h with h | ⟨x,hx,h⟩
  ·left;omega
  ·rcases List.mem_cons.1 hx with rfl | hx
   ·left;have:=(hR x.to.toNat).2 h;unfold edN at h0 hle ⊢;omega
   ·exact .inr ⟨x,hx,h⟩
theorem leastU_rnd {d:Nat} {A B:List Nat} (hR:RndR d A B):∀ {es:List Ed} {a b:Nat},(0 < a->b=a/\a<=d)->(a=0->b=0∨b=d + 1) ->
  (0 < leastU A es a->leastU B es b=leastU A es a)/\(leastU A es a=0->leastU B es b=0∨leastU B es b=d + 2)
 | [],a,b,h1,h2=>by
  rw [leastU,leastU];rcases Nat.eq_zero_or_pos a with h | h
  ·rw [if_pos h];refine ⟨fun h=>by omega,fun _=>?_⟩;rcases h2 h with h3 | h3
   ·left;rw [if_pos h3]
   ·right;rw [if_neg (by omega)];omega
  ·obtain ⟨h3,h4⟩:=h1 h;rw [if_neg (by omega),if_neg (by omega),h3];exact ⟨fun _=>rfl,fun h=>by omega⟩
 | e :: r,a,b,h1,h2=>by
  rw [leastU,leastU];by_cases hb:e.bare=true
  ·rw [if_pos hb,if_pos hb];exact ⟨fun _=>rfl,fun h=>by omega⟩
  rw [if_neg hb,if_neg hb];obtain ⟨g1,g2⟩:=hR e.to.toNat;change (0 < edN A e->edN B e=edN A e/\edN A e<=d) at g1;change (edN A e=0->edN B e=0∨edN B e=d + 1) at g2;by_cases c1:0 < edN A e/\(a=0∨edN A e < a)<;>by_cases c2:0 < edN B e/\(b=0∨edN B e < b)
  ·rw [if_pos c1,if_pos c2];exact leastU_rnd hR (by omega) (by omega)
  ·rw [if_pos c1,if_neg c2];exact leastU_rnd hR (by omega) (by omega)
  ·rw [if_neg c1,if_pos c2];exact leastU_rnd hR (by omega) (by omega)
  ·rw [if_neg c1,if_neg c2];exact leastU_rnd hR (by omega) (by omega)
theorem leastF_rnd {d:Nat} {A B:List Nat} (hR:RndR d A B) (n:Nd):(0 < leastF n A->leastF n B=leastF n A)/\(leastF n A=0->leastF n B=0∨leastF n B=d + 2):=by
 unfold leastF;by_cases h7:n.kind=7
 ·rw [if_pos h7,if_pos h7];exact ⟨leastR_same hR,fun h=>leastR_new hR (by omega) (.inr (leastR_zero.1 h))⟩
 rw [if_neg h7,if_neg h7];by_cases h8:n.kind=8
 ·rw [if_pos h8,if_pos h8];exact leastU_rnd hR (by omega) (by omega)
 rw [if_neg h8,if_neg h8];exact ⟨fun _=>rfl,fun h=>by omega⟩
theorem edN_zero (N:Nat) (e:Ed):edN (List.replicate N 0) e=0:=by
 unfold edN;rw [List.getD_eq_getElem?_getD,List.getElem?_replicate];split<;>rfl
theorem leastU_none (N:Nat):∀ es:List Ed,leastU (List.replicate N 0) es 0=0∨leastU (List.replicate N 0) es 0=1
 | []=>.inl rfl
 | e :: r=>by
  rw [leastU,edN_zero];by_cases hb:e.bare=true
  ·rw [if_pos hb];exact .inr rfl
  ·rw [if_neg hb,if_neg (by omega)];exact leastU_none N r
theorem leastF_none (N:Nat) (n:Nd):leastF n (List.replicate N 0)=0∨leastF n (List.replicate N 0)=1:=by
 unfold leastF;by_cases h7:n.kind=7
 ·rw [if_pos h7]
  cases h:n.edges with
  | nil=>right;rfl
  | cons e r=>left;rw [leastR,edN_zero,if_pos rfl]
 rw [if_neg h7];by_cases h8:n.kind=8
 ·rw [if_pos h8];exact leastU_none N n.edges
 ·rw [if_neg h8];exact .inr rfl
theorem depN_zero (ND:List Nd) (j:Nat):(depN ND 0).getD j 0=0:=by
 rw [depN,List.getD_eq_getElem?_getD,List.getElem?_replicate];split<;>rfl
theorem depN_rnd (ND:List Nd):∀ d,RndR d (depN ND d) (depN ND (d + 1))
 | 0=>fun j=>by
  refine ⟨fun h=>by rw [depN_zero] at h;omega,fun _=>?_⟩;rw [depN_get]
  cases ND[j]? with
  | none=>exact .inl rfl
  | some n=>exact leastF_none _ n
 | d + 1=>fun j=>by
  have ih:=depN_rnd ND d;rw [depN_get ND (d + 1),depN_get ND d]
  cases hn:ND[j]? with
  | none=>exact ⟨fun h=>by simp at h,fun _=>.inl rfl⟩
  | some n=>
   obtain ⟨h1,h2⟩:=leastF_rnd ih n;refine ⟨fun h=>⟨h1 h,?_⟩,h2⟩;have:=rndR_le ih j;rw [depN_get ND d,hn] at this;exact this
theorem depN_le (ND:List Nd):∀ d j,(depN ND d).getD j 0<=d
 | 0,j=>by rw [depN_zero];omega
 | d + 1,j=>rndR_le (depN_rnd ND d) j
def posL (K:List Nat):List Bool:=K.map fun k=>decide (0 < k)
theorem posL_get (K:List Nat) (j:Nat):(posL K).getD j false=decide (0 < K.getD j 0):=by
 unfold posL;simp only [List.getD_eq_getElem?_getD,List.getElem?_map];cases K[j]?<;>simp
theorem posL_len (K:List Nat):(posL K).length=K.length:=by simp [posL]
theorem getD_ext {A B:List Nat} (hl:A.length=B.length) (h:∀ j,A.getD j 0=B.getD j 0):A=B:=by
 refine List.ext_getElem hl fun j h1 h2=>?_;have:=h j;simp only [List.getD_eq_getElem?_getD,gE h1,gE h2,Option.getD_some] at this;exact this
theorem depN_posle (ND:List Nd) (d:Nat):LeB (posL (depN ND d)) (posL (depN ND (d + 1))):=fun j h=>by
 rw [posL_get] at h ⊢;have h:=of_decide_eq_true h;have:=((depN_rnd ND d) j).1 h;exact decide_eq_true (by omega)
theorem depN_same {ND:List Nd} {d:Nat} (h:posL (depN ND d)=posL (depN ND (d + 1))):depN ND (d + 1)=depN ND d:=by
 refine getD_ext (by rw [depN_len,depN_len]) fun j=>?_;obtain ⟨h1,h2⟩:=(depN_rnd ND d) j;rcases Nat.eq_zero_or_pos ((depN ND d).getD j 0) with h3 | h3
 ·have h4:=posL_get (depN ND d) j;rw [h,posL_get,h3] at h4;have:¬ 0 < (depN ND (d + 1)).getD j 0:=by simpa using h4
  omega
 ·exact (h1 h3).1
theorem depN_step (ND:List Nd):∀ d,depN ND (d + 1)=depN ND d∨d<=cntB (posL (depN ND d))
 | 0=>.inr (Nat.zero_le _)
 | d + 1=>by
  rcases depN_step ND d with h | h
  ·left;show (ND.map fun n=>leastF n (depN ND (d + 1)))=ND.map fun n=>leastF n (depN ND d);rw [h]
  ·rcases (leB_eq (by rw [posL_len,posL_len,depN_len,depN_len]) (depN_posle ND d)).1 with h2 | h2
   ·left;have:=depN_same h2;show (ND.map fun n=>leastF n (depN ND (d + 1)))=ND.map fun n=>leastF n (depN ND d);rw [this]
   ·exact .inr (by omega)
theorem depN_fix {ND:List Nd} {d:Nat} (h:depN ND (d + 1)=depN ND d):∀ k,depN ND (d + k)=depN ND d
 | 0=>rfl
 | k + 1=>by
  show (ND.map fun n=>leastF n (depN ND (d + k)))=_;rw [depN_fix h k];exact h
theorem depN_end (ND:List Nd):depN ND (ND.length + 1)=depN ND ND.length:=by
 rcases depN_step ND ND.length with h | h
 ·exact h
 ·rcases (leB_eq (by rw [posL_len,posL_len,depN_len,depN_len]) (depN_posle ND ND.length)).1 with h2 | h2
  ·exact depN_same h2
  ·have:=cntB_le (posL (depN ND (ND.length + 1)));rw [posL_len,depN_len] at this;omega
theorem depN_lt {ND:List Nd} {d:Nat} (h:depN ND (d + 1)≠depN ND d):d < ND.length:=by
 rcases Nat.lt_or_ge d ND.length with h1 | h1
 ·exact h1
 ·obtain ⟨k,rfl⟩:∃ k,d=ND.length + k:=⟨d - ND.length,by omega⟩;exfalso;have h2:=depN_fix (depN_end ND) k;have h3:=depN_fix (depN_end ND) (k + 1);exact h (by rw [show ND.length + k + 1=ND.length + (k + 1) by omega,h3,h2])
theorem depN_all {ND:List Nd} {d:Nat} (h:depN ND (d + 1)=depN ND d):depN ND (d + 1)=depN ND ND.length:=by
 rcases Nat.lt_or_ge d ND.length with h1 | h1
 ·obtain ⟨k,hk⟩:∃ k,ND.length=d + k:=⟨ND.length - d,by omega⟩;rw [hk,depN_fix h k,h]
 ·obtain ⟨k,hk⟩:∃ k,d + 1=ND.length + k:=⟨d + 1 - ND.length,by omega⟩;rw [hk,depN_fix (depN_end ND) k]
def inK (K:List Bool) (e:Ed):Bool:=e.bare || K.getD e.to.toNat false
theorem leastU_pos {K:List Nat}:∀ {es:List Ed} {b:Nat},0 < leastU K es b↔(0 < b∨es.any (inK (posL K))=true)
 | [],b=>by
  rw [leastU];by_cases h:b=0
  ·rw [if_pos h];simp [h]
  ·rw [if_neg h];simp;omega
 | e :: r,b=>by
  have hg:(posL K).getD e.to.toNat false=decide (0 < edN K e):=posL_get K _;rw [leastU,List.any_cons];by_cases hb:e.bare=true
  ·rw [if_pos hb];simp [inK,hb]
  ·rw [if_neg hb]
   have hin:inK (posL K) e=decide (0 < edN K e):=by
    unfold inK;rw [hg];simp [hb]
   rw [hin,Bool.or_eq_true,decide_eq_true_eq];split
   ·rename_i h1;rw [leastU_pos];constructor
    ·exact fun _=>.inr (.inl h1.1)
    ·exact fun _=>.inl h1.1
   ·rename_i h1;rw [leastU_pos];constructor
    ·rintro (h | h)
     ·exact .inl h
     ·exact .inr (.inr h)
    ·rintro (h | h | h)
     ·exact .inl h
     ·by_cases hb0:b=0
      ·exact (h1 ⟨h,.inl hb0⟩).elim
      ·left;omega
     ·exact .inr h
def thB (D:List Nat) (e:Ed):Bool:=e.bare || decide (0 < edN D e)
def manyN (D:List Nat) (es:List Ed):Nat:=es.countP (thB D)
def moB (D:List Nat) (K:List Bool) (e:Ed):Bool:=thB D e && (!e.bare && K.getD e.to.toNat false)
def moreB (D:List Nat) (K:List Bool) (es:List Ed):Bool:=es.any (moB D K)
def sevF (n:Nd) (D:List Nat) (K:List Bool):Bool:=
 if n.kind=1 then true
 else if n.kind=2 then decide (n.lo < n.hi)
 else if n.kind=3 then decide (0 < n.most)
 else if n.kind=4 then decide (1 < n.names.length)
 else if n.kind=5 then decide (0 < n.most) && decide (0 < manyN D n.edges)
 else if n.kind=6 then decide (0 < manyN D n.edges)
 else if n.kind=7 then moreB D K n.edges && decide (manyN D n.edges=n.edges.length)
 else moreB D K n.edges || decide (1 < manyN D n.edges)
def sevN (ND:List Nd) (D:List Nat):Nat->List Bool
 | 0=>List.replicate ND.length false
 | t + 1=>ND.map fun n=>sevF n D (sevN ND D t)
theorem sevN_len (ND:List Nd) (D:List Nat):∀ t,(sevN ND D t).length=ND.length
 | 0=>by simp [sevN]
 | t + 1=>by simp [sevN]
theorem sevN_get (ND:List Nd) (D:List Nat) (t j:Nat):(sevN ND D (t + 1)).getD j false=match ND[j]? with | none=>false | some n=>sevF n D (sevN ND D t):=by
 simp only [sevN,List.getD_eq_getElem?_getD,List.getElem?_map];cases ND[j]?<;>rfl
theorem moreB_le {D:List Nat} {A B:List Bool} (h:LeB A B) {es:List Ed} (hm:moreB D A es=true):moreB D B es=true:=by
 unfold moreB at hm ⊢;rw [List.any_eq_true] at hm ⊢;obtain ⟨e,he,h1⟩:=hm;refine ⟨e,he,?_⟩;unfold moB at h1 ⊢;simp only [Bool.and_eq_true] at h1 ⊢;exact ⟨h1.1,h1.2.1,h _ h1.2.2⟩
theorem sevF_le {D:List Nat} {A B:List Bool} (h:LeB A B) (n:Nd) (hm:sevF n D A=true):sevF n D B=true:=by
 unfold sevF at hm ⊢;by_cases c1:n.kind=1
 ·rw [if_pos c1]
 rw [if_neg c1] at hm ⊢;by_cases c2:n.kind=2
 ·rw [if_pos c2] at hm ⊢;exact hm
 rw [if_neg c2] at hm ⊢;by_cases c3:n.kind=3
 ·rw [if_pos c3] at hm ⊢;exact hm
 rw [if_neg c3] at hm ⊢;by_cases c4:n.kind=4
 ·rw [if_pos c4] at hm ⊢;exact hm
 rw [if_neg c4] at hm ⊢;by_cases c5:n.kind=5
 ·rw [if_pos c5] at hm ⊢;exact hm
 rw [if_neg c5] at hm ⊢;by_cases c6:n.kind=6
 ·rw [if_pos c6] at hm ⊢;exact hm
 rw [if_neg c6] at hm ⊢;by_cases c7:n.kind=7
 ·rw [if_pos c7] at hm ⊢;rw [Bool.and_eq_true] at hm ⊢;exact ⟨moreB_le h hm.1,hm.2⟩
 rw [if_neg c7] at hm ⊢;rw [Bool.or_eq_true] at hm ⊢;exact hm.imp (moreB_le h) id
theorem sevN_le (ND:List Nd) (D:List Nat):∀ t,LeB (sevN ND D t) (sevN ND D (t + 1))
 | 0=>fun j h=>by
  rw [sevN,List.getD_eq_getElem?_getD,List.getElem?_replicate] at h;split at h<;>cases h
 | t + 1=>fun j h=>by
  rw [sevN_get] at h ⊢
  cases hn:ND[j]? with
  | none=>rw [hn] at h;cases h
  | some n=>
   rw [hn] at h;exact sevF_le (sevN_le ND D t) n h
theorem sevN_step (ND:List Nd) (D:List Nat):∀ t,sevN ND D (t + 1)=sevN ND D t∨t<=cntB (sevN ND D t)
 | 0=>.inr (Nat.zero_le _)
 | t + 1=>by
  rcases sevN_step ND D t with h | h
  ·left;show (ND.map fun n=>sevF n D (sevN ND D (t + 1)))=ND.map fun n=>sevF n D (sevN ND D t);rw [h]
  ·rcases (leB_eq (by rw [sevN_len,sevN_len]) (sevN_le ND D t)).1 with h2 | h2
   ·left;show (ND.map fun n=>sevF n D (sevN ND D (t + 1)))=ND.map fun n=>sevF n D (sevN ND D t);rw [<- h2]
   ·exact .inr (by omega)
theorem sevN_end (ND:List Nd) (D:List Nat):sevN ND D (ND.length + 1)=sevN ND D ND.length:=by
 rcases sevN_step ND D ND.length with h | h
 ·exact h
 ·rcases (leB_eq (by rw [sevN_len,sevN_len]) (sevN_le ND D ND.length)).1 with h2 | h2
  ·exact h2.symm
  ·have:=cntB_le (sevN ND D (ND.length + 1));rw [sevN_len] at this;omega
def sevS (ND:List Nd) (D:List Nat):List Bool:=sevN ND D ND.length
theorem sevS_fix (ND:List Nd) (D:List Nat):(ND.map fun n=>sevF n D (sevS ND D))=sevS ND D:=sevN_end ND D
theorem sevN_closed {ND:List Nd} {D:List Nat} {K:List Bool} (h:∀ j n,ND[j]? = some n->sevF n D K=true->K.getD j false=true):∀ t,LeB (sevN ND D t) K
 | 0=>fun j hj=>by
  rw [sevN,List.getD_eq_getElem?_getD,List.getElem?_replicate] at hj;split at hj<;>cases hj
 | t + 1=>fun j hj=>by
  rw [sevN_get] at hj
  cases hn:ND[j]? with
  | none=>rw [hn] at hj;cases hj
  | some n=>
   rw [hn] at hj;exact h j n hn (sevF_le (sevN_closed h t) n hj)
theorem sevS_eq {ND:List Nd} {D:List Nat} {K:List Bool} (hl:K.length=ND.length) (h1:LeB K (sevS ND D)) (h:∀ j n,ND[j]? = some n->sevF n D K=true->K.getD j false=true):K=sevS ND D:=
 leB_anti (by rw [hl,sevS,sevN_len]) h1 (sevN_closed h _)
theorem sevS_set {ND:List Nd} {D:List Nat} {K:List Bool} (h1:LeB K (sevS ND D)) {i:Nat} {n:Nd} (hn:ND[i]? = some n) (h2:sevF n D K=true):LeB (K.set i true) (sevS ND D):=fun j hj=>by
 by_cases hij:i=j
 ·subst hij;have:=sevF_le h1 n h2;have h3:=sevN_get ND D ND.length i;rw [hn] at h3;rw [<- sevS_fix];show (sevN ND D (ND.length + 1)).getD i false=true;rw [h3];exact this
 ·refine h1 j ?_;rw [List.getD_eq_getElem?_getD,List.getElem?_set_ne hij] at hj;rw [List.getD_eq_getElem?_getD];exact hj
theorem cntB_set {K:List Bool} {i:Nat} (hi:i < K.length) (h:K.getD i false=false):cntB K < cntB (K.set i true):=by
 have hle:LeB K (K.set i true):=fun j hj=>by
  by_cases hij:i=j
  ·subst hij;rw [List.getD_eq_getElem?_getD,List.getElem?_set_self hi];rfl
  ·rw [List.getD_eq_getElem?_getD,List.getElem?_set_ne hij,<- List.getD_eq_getElem?_getD];exact hj
 rcases (leB_eq (by simp) hle).1 with h2 | h2
 ·rw [h2,List.getD_eq_getElem?_getD,List.getElem?_set_self hi] at h;cases h
 ·exact h2
theorem moB_th {D:List Nat} {S:List Bool} {e:Ed} (h:moB D S e=true):thB D e=true:=by
 unfold moB at h;rw [Bool.and_eq_true] at h;exact h.1
theorem sevF_dep {L N:Nat} {n:Nd} {D:List Nat} {S:List Bool} (hn:NdOK L N n) (h:sevF n D S=true):0 < leastF n D:=by
 have hk1:=hn.k1;have hk8:=hn.k8;unfold sevF at h;unfold leastF;by_cases c7:n.kind=7
 ·rw [if_pos c7];simp only [c7] at h;simp only [Int.reduceEq,if_false,if_true,Bool.and_eq_true,decide_eq_true_eq] at h;have h2:=h.2;unfold manyN at h2;rw [List.countP_eq_length] at h2;refine Nat.pos_of_ne_zero fun h0=>?_;obtain ⟨e,he,hz⟩:=leastR_zero.1 h0;have:=h2 e he;unfold thB at this
  have hb:e.bare=false:=by
   cases hb:e.bare
   ·rfl
   ·have:=hn.bare e he hb;omega
  rw [hb,hz] at this;simp at this
 rw [if_neg c7];by_cases c8:n.kind=8
 ·rw [if_pos c8];simp only [c8] at h;simp only [Int.reduceEq,if_false,Bool.or_eq_true,decide_eq_true_eq] at h;refine leastU_pos.2 (.inr ?_)
  have key:∀ e∈n.edges,thB D e=true->n.edges.any (inK (posL D))=true:=fun e he ht=>by
   rw [List.any_eq_true];refine ⟨e,he,?_⟩;unfold inK;have:(posL D).getD e.to.toNat false=decide (0 < edN D e):=posL_get D _;rw [this];exact ht
  rcases h with h | h
  ·unfold moreB at h;rw [List.any_eq_true] at h;obtain ⟨e,he,hm⟩:=h;exact key e he (moB_th hm)
  ·have h:0 < manyN D n.edges:=by omega
   unfold manyN at h;rw [List.countP_pos_iff] at h;obtain ⟨e,he,ht⟩:=h;exact key e he ht
 ·rw [if_neg c8];omega
def cN (l:List Nat):List DV:=l.map fun (z:Nat)=>DV.v (.int .i64 (z:Int))
theorem cN_len (l:List Nat):(cN l).length=l.length:=by simp [cN]
theorem cN_get {l:List Nat} {i z:Nat} (h:l[i]? = some z):(cN l)[i]? = some (DV.v (.int .i64 (z:Int))):=by simp [cN,h]
theorem cN_set (l:List Nat) (i z:Nat):(cN l).set i (DV.v (.int .i64 (z:Int)))=cN (l.set i z):=by simp [cN,List.map_set]
theorem dInts_flat (l:List Nat):(dInts l).flatten=cN l:=by
 induction l with
 | nil=>rfl
 | cons b r ih=>simp only [dInts,cN,List.map_cons,List.flatten_cons] at ih ⊢;rw [ih];all_goals rfl
theorem repN (n:Nat):(List.replicate n (vL [Value.int .i64 0])).flatten=cN (List.replicate n 0):=by
 induction n with
 | zero=>rfl
 | succ n ih=>simp only [List.replicate_succ,List.flatten_cons,ih];rfl
theorem weL_cN {n m:Nat} {tk:List TkE} {l:List DV} {r:List Nat} (h:l=cN r):WeL n m tk l (cN r):=by
 subst h;refine weL_sc _ fun x hx=>?_;obtain ⟨z,_,rfl⟩:=List.mem_map.1 hx;exact ⟨_,rfl⟩
theorem ms_n {bx:List (List DV)} {N n0 m0 n i:Nat} {r:List Nat} (hr:r.length=n) (hN:N<=i) (hb:bx[i]? = some (cN r)):Cc bx N n0 m0 (.sl 1 (dInts r) none) (.ms i 1 0 n n):=by
 simp only [Cc];refine Or.inr (Or.inr (Or.inl ⟨i,0,n,_,by rw [dInts_len,hr],hN,hb,?_,?_,?_⟩))
 ·rw [dInts_flat,List.drop_zero,List.take_of_length_le (by rw [cN_len,dInts_len];omega)]
 ·intro x hx;simp only [dInts,List.mem_map] at hx;obtain ⟨_,_,rfl⟩:=hx;rfl
 ·intro x hx;rw [dInts_flat] at hx;obtain ⟨_,_,rfl⟩:=List.mem_map.1 hx;exact ⟨_,rfl⟩
abbrev ndsSt (PC:List DV) (ND:List Nd) (q e:Nat):St:=
 ⟨[(0,⟨[],.pt PC 0⟩),(3,⟨[],.sl 7 (dNds (ND.take e)) (some 0)⟩),(8,⟨[],.v (.int .i64 ND.length)⟩),(9,⟨[],.v (.int .i64 e)⟩)],[],[⟨q,105,7,none⟩]⟩
theorem dNds_snoc {l:List Nd} {e:Nat} {n:Nd} (h:l[e]? = some n):dNds (l.take e) ++ [dNd n]=dNds (l.take (e + 1)):=by
 rw [List.take_add_one,h];simp [dNds]
theorem nodes19_spec {S:Sch} {ND:List Nd} {PC:List DV} (hP:PlanR S ND PC) :
  EvP Tryz.prog 180 [.pt PC 0] (.sl 7 (dNds ND) none):=by
 have h1:=hP.len;have h2:=hP.node;have hnl:=hP.nl;refine ev_go (P:=Tryz.prog) tt tt_ok 5000 24 [.tmp 2] Tryz.func180 rfl Tryz.ntmps180 rfl (nL rfl) (fun E9 w9 hn9 hm9=>?_);refine call_p en103 (h1) ax rfl ?_;refine loop_i (fun j st=>∃ e:Nat,st=ndsSt PC ND e e/\e<=ND.length/\j=ND.length - e) ND.length (ndsSt PC ND 0 0) (weak_tok ⟨0,105,7,none⟩ rfl ⟨_,rfl⟩ rfl wA rfl rfl wTB) ⟨0,rfl,by omega,by omega⟩ ?_;rintro j st ⟨e,rfl,he,rfl⟩;refine br (fun hL=>?_) (fun hL=>?_)
 ·have hlt:e < ND.length:=by have:=hL;simp at this;exact this
  obtain ⟨n,hn⟩:∃ n,ND[e]? = some n:=⟨_,gE hlt⟩;have hml:(dNds (ND.take e)).length=e:=by rw [dNds_len,List.length_take];omega
  refine call_p en44 (h2 e n hn) ax rfl ?_;refine ⟨hml,⟨by rw [hml];simp [maxLen];omega,by rw [hml];simp;omega⟩,?_⟩;exact ⟨ndsSt PC ND (e + 1) (e + 1),(weak_mk ⟨_,rfl⟩ wA rfl rfl rfl (by repeat' (first | exact trivial | exact we_rfl rfl | exact we_int (nxt hlt (by omega)) | exact we_sl (dNds_snoc hn) rfl | refine ⟨⟨_,rfl,?_⟩,?_⟩))),ND.length - (e + 1),by omega,e + 1,rfl,by omega,rfl⟩
 ·have hge:e=ND.length:=by have:=hL;simp at this;omega
  subst hge;rw [List.take_length];exact ⟨_,ax,rfl⟩
abbrev le7St (K:List Nat) (es:List Ed) (m e:Nat):St:=
 ⟨[(1,⟨[],.sl 1 (dInts K) none⟩),(5,⟨[],.v (.int .i64 m)⟩),(16,⟨[],.sl 10 (dEds es) none⟩),(17,⟨[],.v (.int .i64 (dEds es).length)⟩),(18,⟨[],.v (.int .i64 e)⟩)],[],[]⟩
abbrev le8St (K:List Nat) (es:List Ed) (m e:Nat):St:=
 ⟨[(1,⟨[],.sl 1 (dInts K) none⟩),(8,⟨[],.v (.int .i64 m)⟩),(41,⟨[],.sl 10 (dEds es) none⟩),(42,⟨[],.v (.int .i64 (dEds es).length)⟩),(43,⟨[],.v (.int .i64 e)⟩)],[],[]⟩
theorem least19_spec {L:Nat} {n:Nd} (K:List Nat) (hK:K.length<=1099511627776) (hn:NdOK L K.length n) (hz:∀ z∈K,z<=1099511627776) (hel:n.edges.length<=1099511627776) :
  EvP Tryz.prog 181 [.agg (dNd n),.sl 1 (dInts K) none] (.v (.int .i64 (leastF n K:Nat))):=by
 have hedge:=hn.edge;have hbare:=hn.bare;obtain ⟨kind,at',lo,hi,most,names,es⟩:=n;simp only at hedge hbare hel;refine ev_go (P:=Tryz.prog) tt tt_ok 5000 80 [.tmp 4] Tryz.func181 rfl Tryz.ntmps181 rfl (nL rfl) (fun E9 w9 hn9 hm9=>?_);refine br (fun h7=>?_) (fun h7=>?_)
 ·have h7:kind=7:=by simpa using h7
  have hF:leastF ⟨kind,at',lo,hi,most,names,es⟩ K=leastR K es 0:=by simp [leastF,h7]
  rw [hF];refine loop_i (fun j st=>∃ e m:Nat,st=le7St K es m e/\e<=es.length/\m<=1099511627776/\leastR K es 0=leastR K (es.drop e) m/\j=es.length - e) es.length (le7St K es 0 0) (weak_mk ⟨_,rfl⟩ wA rfl rfl rfl wB) ⟨0,0,rfl,by omega,by omega,rfl,by omega⟩ ?_;rintro j st ⟨e,m,rfl,he,hm,heq,rfl⟩;refine br (fun hL=>?_) (fun hL=>?_)
  ·have hlt:e < es.length:=by have:=hL;simp [dEds_len] at this;exact this
   obtain ⟨x,hx⟩:∃ x,es[e]? = some x:=⟨_,gE hlt⟩;rw [drop_cons hx,leastR] at heq;have hxe:=hedge x (mG hx)
   have hxb:x.bare=false:=by
    cases hb:x.bare
    ·rfl
    ·have:=hbare x (mG hx) hb;omega
   obtain ⟨k,hk,hkl⟩:=hxe.to1 hxb;obtain ⟨z,hz1⟩:∃ z,K[k]? = some z:=⟨_,gE hkl⟩;have hzl:=hz z (mG hz1);have hed:edN K x=z:=by simp [edN,hk,List.getD_eq_getElem?_getD,hz1]
   have hg:(dInts K)[x.to.toNat]? = some [DV.v (.int .i64 (z:Int))]:=by rw [hk];exact dInts_get hz1
   rw [hed] at heq;refine ⟨_,⟨by omega,dEds_get hx⟩,?_⟩;refine ⟨_,⟨by omega,hg⟩,?_⟩;refine br (fun g=>?_) (fun g=>?_)
   ·have g:z=0:=by simpa using g
    rw [heq,if_pos g];exact (rfl:_=_)
   ·have g:¬ z=0:=by simpa using g
    rw [if_neg g] at heq;refine ⟨_,⟨by omega,hg⟩,?_⟩;exact ⟨le7St K es (max m z) (e + 1),(weak_mk ⟨_,rfl⟩ wA rfl rfl rfl (by repeat' (first | exact trivial | exact we_rfl rfl | exact we_int (show max (m:Int) z=((max m z:Nat):Int) by omega) | exact we_int (nxt hlt (by omega)) | refine ⟨⟨_,rfl,?_⟩,?_⟩))),es.length - (e + 1),by omega,e + 1,_,rfl,by omega,by omega,heq,rfl⟩
  ·have hge:e=es.length:=by have:=hL;simp [dEds_len] at this;omega
   subst hge;rw [List.drop_length,leastR] at heq;have hw:IntKind.i64.wrap ((m:Int) + 1)=((m + 1:Nat):Int):=by rw [wrap64 (by omega) (by omega)];omega
   rw [heq];refine (congrArg (fun z=>DV.v (.int .i64 z)) ?_:_=_);exact hw
 have h7:¬ kind=7:=by simpa using h7
 refine br (fun h8=>?_) (fun h8=>?_)
 ·have h8:kind=8:=by simpa using h8
  have hF:leastF ⟨kind,at',lo,hi,most,names,es⟩ K=leastU K es 0:=by simp [leastF,h8]
  rw [hF];refine loop_i (fun j st=>∃ e m:Nat,st=le8St K es m e/\e<=es.length/\m<=1099511627776/\leastU K es 0=leastU K (es.drop e) m/\j=es.length - e) es.length (le8St K es 0 0) (weak_mk ⟨_,rfl⟩ wA rfl rfl rfl wB) ⟨0,0,rfl,by omega,by omega,rfl,by omega⟩ ?_;rintro j st ⟨e,m,rfl,he,hm,heq,rfl⟩;refine br (fun hL=>?_) (fun hL=>?_)
  ·have hlt:e < es.length:=by have:=hL;simp [dEds_len] at this;exact this
   obtain ⟨x,hx⟩:∃ x,es[e]? = some x:=⟨_,gE hlt⟩;rw [drop_cons hx,leastU] at heq;have hxe:=hedge x (mG hx);refine ⟨_,⟨by omega,dEds_get hx⟩,?_⟩;refine br (fun hb=>?_) (fun hb=>?_)
   ·have hb:x.bare=true:=hb;rw [heq,if_pos hb];exact (rfl:_=_)
   have hb:x.bare=false:=hb;rw [if_neg (by rw [hb];decide)] at heq;obtain ⟨k,hk,hkl⟩:=hxe.to1 hb;obtain ⟨z,hz1⟩:∃ z,K[k]? = some z:=⟨_,gE hkl⟩;have hzl:=hz z (mG hz1);have hed:edN K x=z:=by simp [edN,hk,List.getD_eq_getElem?_getD,hz1]
   have hg:(dInts K)[x.to.toNat]? = some [DV.v (.int .i64 (z:Int))]:=by rw [hk];exact dInts_get hz1
   rw [hed] at heq;refine ⟨_,⟨by omega,hg⟩,?_⟩;have keep:¬ (0 < z/\(m=0∨z < m))->leastU K es 0=leastU K (es.drop (e + 1)) m:=fun h=>by rw [heq,if_neg h]
   have take:(0 < z/\(m=0∨z < m))->leastU K es 0=leastU K (es.drop (e + 1)) z:=fun h=>by rw [heq,if_pos h]
   refine br (fun g1=>?_) (fun g1=>?_)
   ·have g1:0 < z:=by simpa [lastG] using g1
    refine br (fun g2=>?_) (fun g2=>?_)
    ·have g2:¬ m=0:=by simpa using g2
     refine ⟨_,⟨by omega,hg⟩,?_⟩;refine br (fun g3=>?_) (fun g3=>?_)
     ·have g3:z < m:=by simpa [pickB,pickD,lastG] using g3
      refine ⟨_,⟨by omega,hg⟩,?_⟩;exact ⟨le8St K es z (e + 1),(weak_mk ⟨_,rfl⟩ wA rfl rfl rfl (wNB hlt)),es.length - (e + 1),by omega,e + 1,_,rfl,by omega,by omega,take ⟨g1,.inr g3⟩,rfl⟩
     ·have g3:¬ z < m:=by simpa [pickB,pickD,lastG] using g3
      exact ⟨le8St K es m (e + 1),(weak_mk ⟨_,rfl⟩ wA rfl rfl rfl (wNB hlt)),es.length - (e + 1),by omega,e + 1,_,rfl,by omega,by omega,keep (by omega),rfl⟩
    ·have g2:m=0:=by simpa using g2
     refine ⟨_,⟨by omega,hg⟩,?_⟩;exact ⟨le8St K es z (e + 1),(weak_mk ⟨_,rfl⟩ wA rfl rfl rfl (wNB hlt)),es.length - (e + 1),by omega,e + 1,_,rfl,by omega,by omega,take ⟨g1,.inl g2⟩,rfl⟩
   ·have g1:¬ 0 < z:=by simpa [lastG] using g1
    exact ⟨le8St K es m (e + 1),(weak_mk ⟨_,rfl⟩ wA rfl rfl rfl (wNB hlt)),es.length - (e + 1),by omega,e + 1,_,rfl,by omega,by omega,keep (by omega),rfl⟩
  ·have hge:e=es.length:=by have:=hL;simp [dEds_len] at this;omega
   subst hge;rw [List.drop_length,leastU] at heq;refine br (fun g=>?_) (fun g=>?_)
   ·have g:m=0:=by simpa using g
    rw [heq,if_pos g];exact (rfl:_=_)
   ·have g:¬ m=0:=by simpa using g
    rw [if_neg g] at heq;have hw:IntKind.i64.wrap ((m:Int) + 1)=((m + 1:Nat):Int):=by rw [wrap64 (by omega) (by omega)];omega
    rw [heq];refine (congrArg (fun z=>DV.v (.int .i64 z)) ?_:_=_);exact hw
 ·have h8:¬ kind=8:=by simpa using h8
  have hF:leastF ⟨kind,at',lo,hi,most,names,es⟩ K=1:=by simp [leastF,h7,h8]
  rw [hF];exact (rfl:_=_)
theorem ms_b {bx:List (List DV)} {N n0 m0 n i:Nat} {r:List Bool} (hr:r.length=n) (hN:N<=i) (hb:bx[i]? = some (cB r)):Cc bx N n0 m0 (.sl 1 (dBo r) none) (.ms i 1 0 n n):=by
 simp only [Cc];refine Or.inr (Or.inr (Or.inl ⟨i,0,n,_,by rw [dBo_len,hr],hN,hb,?_,?_,?_⟩))
 ·rw [dBo_flat,List.drop_zero,List.take_of_length_le (by rw [cB_len,dBo_len];omega)]
 ·intro x hx;simp only [dBo,List.mem_map] at hx;obtain ⟨_,_,rfl⟩:=hx;rfl
 ·intro x hx;rw [dBo_flat] at hx;obtain ⟨_,_,rfl⟩:=List.mem_map.1 hx;exact ⟨_,rfl⟩
def chgB (ND:List Nd) (d e:Nat):Bool:=(List.range e).any fun i=>decide (¬ (depN ND (d + 1)).getD i 0=(depN ND d).getD i 0)
theorem chgB_succ (ND:List Nd) (d e:Nat):chgB ND d (e + 1)=(chgB ND d e || decide (¬ (depN ND (d + 1)).getD e 0=(depN ND d).getD e 0)):=by
 simp [chgB,List.range_succ]
theorem chgB_all {ND:List Nd} {d:Nat}:chgB ND d ND.length=false↔depN ND (d + 1)=depN ND d:=by
 constructor
 ·intro h;refine getD_ext (by rw [depN_len,depN_len]) fun j=>?_;unfold chgB at h;rw [List.any_eq_false] at h;rcases Nat.lt_or_ge j ND.length with hj | hj
  ·have:=h j (by simpa using hj);simpa using this
  ·simp only [List.getD_eq_getElem?_getD];rw [List.getElem?_eq_none (by rw [depN_len];exact hj),List.getElem?_eq_none (by rw [depN_len];exact hj)]
 ·intro h;unfold chgB;rw [h,List.any_eq_false];simp
theorem depN_small {ND:List Nd} {d:Nat} (hd:d<=1099511627776):∀ z∈depN ND d,z<=1099511627776:=fun z hz=>by
 obtain ⟨i,hi⟩:=List.mem_iff_getElem?.1 hz;have:=depN_le ND d i;rw [List.getD_eq_getElem?_getD,hi] at this;simp only [Option.getD_some] at this;omega
abbrev dp1St (ND:List Nd) (d:Nat) (c:Bool):St:=
 ⟨[(3,⟨[],.sl 7 (dNds ND) none⟩),(4,⟨[],.sl 1 (dInts (depN ND d)) none⟩),(5,⟨[],.v (.bool c)⟩)],[],[]⟩
abbrev dp2St (ND:List Nd) (d:Nat) (c:Bool) (L:List Nat) (e:Nat):St:=
 ⟨[(3,⟨[],.sl 7 (dNds ND) none⟩),(4,⟨[],.sl 1 (dInts (depN ND d)) none⟩),(5,⟨[],.v (.bool c)⟩),(6,⟨[],.ms 0 1 0 (dNds ND).length (dNds ND).length⟩),(18,⟨[],.sl 7 (dNds ND) none⟩),(19,⟨[],.v (.int .i64 (dNds ND).length)⟩),(20,⟨[],.v (.int .i64 e)⟩)],[cN L],[]⟩
theorem depths_gen {L:Nat} {ND:List Nd} {p:DV} (h0:EvP Tryz.prog 180 [p] (.sl 7 (dNds ND) none)) (hok:∀ n∈ND,NdOK L ND.length n) (hnl:ND.length<=1099511627776) (hsz:∀ n∈ND,n.edges.length<=1099511627776) (hcc:∀ bx N n m,Cc bx N n m p p) :
  EvP Tryz.prog 120 [p] (.sl 1 (dInts (depN ND ND.length)) none):=by
 have hdl:=dNds_len ND;refine ev_go (P:=Tryz.prog) tt tt_ok 5000 46 [.tmp 2] Tryz.func120 rfl Tryz.ntmps120 rfl (nL rfl) (fun E9 w9 hn9 hm9=>?_);refine call_p en180 (h0) (by repeat' (first | exact rfl | exact trivial | exact Or.inr (Or.inl ⟨_,rfl⟩) | exact Or.inr ⟨_,rfl⟩ | exact Or.inl ⟨rfl,rfl⟩ | exact Or.inl rfl | refine Or.inr ⟨_,_,rfl,Nat.zero_le _,rfl,?_⟩ | refine ⟨_,_,rfl,?_,?_⟩ | refine ⟨_,rfl,?_⟩ | exact hcc _ _ _ _| refine Or.inr (Or.inr (Or.inr ⟨_,_,rfl,?_⟩)) | exact Or.inl rfl | refine Or.inr ?_)) rfl ?_;refine ⟨⟨rfl,by omega,by rw [hdl];omega,by rw [hdl];omega⟩,?_⟩;refine loop_w (fun j st=>∃ (d:Nat) (c:Bool),st=dp1St ND d c/\(c=true->d<=ND.length)/\(c=false->depN ND d=depN ND ND.length)/\j=ND.length + 2 - d) (ND.length + 2) (dp1St ND 0 true) (.frz 0 rfl rfl rfl rfl ?_) ⟨0,true,rfl,by omega,by simp,by omega⟩ ?_
 ·refine ⟨⟨_,rfl,ax⟩,⟨_,rfl,ms_n (by rw [depN_len,hdl];omega) (by omega) ?_⟩,⟨_,rfl,ax⟩,trivial⟩;refine congrArg some ?_;rw [repN,hdl];rfl
 rintro j st ⟨d,c,rfl,hc1,hc2,rfl⟩;refine br (fun hc=>?_) (fun hc=>?_)
 ·have hc:c=true:=hc;have hd:=hc1 hc;refine ⟨⟨rfl,by omega,by rw [hdl];omega,by rw [hdl];omega⟩,?_⟩;refine loop_i (fun j st=>∃ (e:Nat) (L:List Nat),st=dp2St ND d (chgB ND d e) L e/\e<=ND.length/\L.length=ND.length/\(∀ i:Nat,i < e->L.getD i 0=(depN ND (d + 1)).getD i 0)/\j=ND.length - e) ND.length (dp2St ND d false (List.replicate ((dNds ND).length:Int).toNat 0) 0) (weak_b 1 rfl (by repeat' (first | exact rfl | exact we_rfl rfl | exact weL_cN (repN _) | refine ⟨_,_,rfl,?_,?_⟩)) rfl rfl rfl (by repeat' (first | exact trivial | exact we_rfl rfl | exact weL_cN (repN _) | refine ⟨⟨_,rfl,?_⟩,?_⟩))) ⟨0,_,rfl,by omega,by rw [List.length_replicate,hdl];omega,fun i hi=>by omega,by omega⟩ ?_;rintro j st ⟨e,L,rfl,he,hL,hLv,rfl⟩;refine br (fun hlt=>?_) (fun hlt=>?_)
  ·have hlt:e < ND.length:=by have:=hlt;simp [hdl] at this;exact this
   obtain ⟨n,hn⟩:∃ n,ND[e]? = some n:=⟨_,gE hlt⟩;have hnm:=mG hn;have hle:=least19_spec (depN ND d) (by rw [depN_len];exact hnl) (n:=n) (by rw [depN_len];exact hok n hnm) (depN_small (by omega)) (hsz n hnm);refine ⟨_,⟨by omega,dNds_get hn⟩,?_⟩;refine call_p en181 (hle) ax rfl ?_;refine ⟨⟨by omega,by rw [hdl];omega⟩,?_⟩;refine ⟨by rw [cN_len];omega,?_⟩;refine drawG_i (fun _=>false) mo (by decide +kernel) ?_;have hv:=depN_get ND d e;rw [hn] at hv;have hv:(depN ND (d + 1)).getD e 0=leastF n (depN ND d):=hv;obtain ⟨z,hz⟩:∃ z,(depN ND d)[e]? = some z:=⟨_,gE (by rw [depN_len];exact hlt)⟩;have hzd:(depN ND d).getD e 0=z:=by rw [List.getD_eq_getElem?_getD,hz];all_goals rfl
   have hcs:=chgB_succ ND d e;rw [hv,hzd] at hcs
   have hst:(cN L).set (0 + (e:Int).toNat * 1) (DV.v (.int .i64 ((leastF n (depN ND d):Nat):Int)))=cN (L.set e (leastF n (depN ND d))):=by
    rw [show 0 + (e:Int).toNat * 1=e by omega,cN_set]
   have hLs:∀ i:Nat,i < e + 1->(L.set e (leastF n (depN ND d))).getD i 0=(depN ND (d + 1)).getD i 0:=fun i hi=>by
    by_cases hie:i=e
    ·subst hie;rw [hv,List.getD_eq_getElem?_getD,List.getElem?_set_self (by omega)];all_goals rfl
    ·rw [List.getD_eq_getElem?_getD,List.getElem?_set_ne (Ne.symm hie),<- List.getD_eq_getElem?_getD];exact hLv i (by omega)
   refine br (fun g=>?_) (fun g=>?_)
   ·have g:chgB ND d e=false:=by simpa using g
    rw [g,Bool.false_or] at hcs
    have hld:(cN (L.set e (leastF n (depN ND d))))[0 + (e:Int).toNat * 1]? = some (DV.v (.int .i64 ((leastF n (depN ND d):Nat):Int))):=by
     rw [show 0 + (e:Int).toNat * 1=e by omega];exact cN_get (List.getElem?_set_self (by omega))
    refine ⟨⟨by omega,by rw [hdl];omega⟩,?_⟩;rw [hst];refine ⟨_,hld,?_⟩;refine ⟨_,⟨by omega,dInts_get hz⟩,?_⟩
    have hbo:(!decide (((leastF n (depN ND d):Nat):Int)=(z:Int)))=chgB ND d (e + 1):=by
     rw [hcs,Bool.eq_iff_iff];simp;omega
    exact ⟨dp2St ND d (chgB ND d (e + 1)) (L.set e (leastF n (depN ND d))) (e + 1),(weak_b 1 rfl (by repeat' (first | exact rfl | exact we_rfl rfl | exact weL_cN rfl | exact we_bool hbo | exact we_int (nxt hlt (by omega)) | refine ⟨_,_,rfl,?_,?_⟩)) rfl rfl rfl (by repeat' (first | exact trivial | exact we_rfl rfl | exact weL_cN rfl | exact we_bool hbo | exact we_int (nxt hlt (by omega)) | refine ⟨⟨_,rfl,?_⟩,?_⟩))),ND.length - (e + 1),by omega,e + 1,_,rfl,by omega,by rw [List.length_set];exact hL,hLs,rfl⟩
   ·have g:chgB ND d e=true:=by simpa using g
    rw [g,Bool.true_or] at hcs;exact ⟨dp2St ND d (chgB ND d (e + 1)) (L.set e (leastF n (depN ND d))) (e + 1),(weak_b 1 rfl (by repeat' (first | exact rfl | exact we_rfl rfl | exact weL_cN hst | exact we_bool hcs.symm | exact we_int (nxt hlt (by omega)) | refine ⟨_,_,rfl,?_,?_⟩)) rfl rfl rfl (by repeat' (first | exact trivial | exact we_rfl rfl | exact weL_cN hst | exact we_bool hcs.symm | exact we_int (nxt hlt (by omega)) | refine ⟨⟨_,rfl,?_⟩,?_⟩))),ND.length - (e + 1),by omega,e + 1,_,rfl,by omega,by rw [List.length_set];exact hL,hLs,rfl⟩
  ·have hge:e=ND.length:=by have:=hlt;simp [hdl] at this;omega
   subst hge
   have hLL:L=depN ND (d + 1):=getD_ext (by rw [hL,depN_len]) fun j=>by
    rcases Nat.lt_or_ge j ND.length with hj | hj
    ·exact hLv j hj
    ·simp only [List.getD_eq_getElem?_getD];rw [List.getElem?_eq_none (by omega),List.getElem?_eq_none (by rw [depN_len];omega)]
   subst hLL;refine ⟨dp1St ND (d + 1) (chgB ND d ND.length),.frz 0 rfl rfl rfl rfl ⟨⟨_,rfl,ax⟩,⟨_,rfl,ms_n (by rw [depN_len,hdl]) (by omega) rfl⟩,⟨_,rfl,ax⟩,trivial⟩,ND.length + 2 - (d + 1),by omega,d + 1,_,rfl,fun hcc=>?_,fun hcc=>depN_all (chgB_all.1 hcc),rfl⟩;have:depN ND (d + 1)≠depN ND d:=fun h=>by rw [chgB_all.2 h] at hcc;cases hcc
   have:=depN_lt this;omega
 ·have hc:c=false:=hc;rw [hc2 hc];exact ⟨_,ax,rfl⟩
theorem PlanR.esz {S:Sch} {ND:List Nd} {PC:List DV} (hP:PlanR S ND PC):∀ n∈ND,n.edges.length<=1099511627776:=fun n hn=>by
 have h1:=hP.wt;rw [hP.nds] at hn;exact (resNds_sz hn h1).2
theorem depths_spec {S:Sch} {ND:List Nd} {PC:List DV} (hP:PlanR S ND PC):EvP Tryz.prog 120 [.pt PC 0] (.sl 1 (dInts (depN ND ND.length)) none):=
 depths_gen (nodes19_spec hP) hP.ok hP.nl hP.esz fun _ _ _ _=>ax
end Go.Proofs.YtadhpeooehkklaaGreat
set_option maxRecDepth 100000
namespace Go.Proofs.YtadhpeooehkklaaGreat
open Go Go.RowKit Dv Tryz
end Go.Proofs.YtadhpeooehkklaaGreat
set_option maxRecDepth 100000
namespace Go.Proofs.YtadhpeooehkklaaGreat
open Go Go.RowKit Dv Tryz
theorem there_spec {L:Nat} (D:List Nat) {x:Ed} (hx:EdOK L D.length x) :
  EvP Tryz.prog 210 [.agg (dEd x),.pt [.sl 1 (dInts D) none] 0] (.v (.bool (thB D x))):=by
 refine ev_go (P:=Tryz.prog) tt tt_ok 5000 14 [.tmp 3] Tryz.func210 rfl Tryz.ntmps210 rfl (nL rfl) (fun E9 w9 hn9 hm9=>?_);refine br (fun hb=>?_) (fun hb=>?_)
 ·have hb:x.bare=false:=by simpa using hb
  obtain ⟨k,hk,hkl⟩:=hx.to1 hb;obtain ⟨z,hz⟩:∃ z,D[k]? = some z:=⟨_,gE hkl⟩;refine ⟨_,⟨by omega,by rw [hk];exact dInts_get hz⟩,?_⟩;refine (congrArg (fun b=>DV.v (.bool b)) ?_:_=_);simp [thB,hb,edN,hk,List.getD_eq_getElem?_getD,hz,pickB]
 ·have hb:x.bare=true:=by simpa using hb
  refine (congrArg (fun b=>DV.v (.bool b)) ?_:_=_);simp [thB,hb,pickB]
abbrev svSt (D:List Nat) (K:List Bool) (n:Nd) (m:Nat) (b:Bool) (e:Nat):St:=
 ⟨[(2,⟨[],.sl 1 (dBo K) none⟩),(3,⟨[],.loc 0 0⟩),(7,⟨[],.fn 210 [] [.loc 1 0]⟩),(8,⟨[],.v (.int .i64 m)⟩),(9,⟨[],.v (.bool b)⟩),(14,⟨[],.sl 10 (dEds n.edges) none⟩),(15,⟨[],.v (.int .i64 (dEds n.edges).length)⟩),(16,⟨[],.v (.int .i64 e)⟩)],[dNd n,[.sl 1 (dInts D) none]],[]⟩
theorem several_spec {L:Nat} {n:Nd} (D:List Nat) (K:List Bool) (hl:K.length=D.length) (hD:D.length<=1099511627776) (hn:NdOK L D.length n) (hel:n.edges.length<=1099511627776) :
  EvP Tryz.prog 182 [.agg (dNd n),.sl 1 (dInts D) none,.sl 1 (dBo K) none] (.v (.bool (sevF n D K))):=by
 have hedge:=hn.edge;have hk1:=hn.k1;have hk8:=hn.k8;obtain ⟨kind,at',lo,hi,most,names,es⟩:=n;simp only at hedge hel hk1 hk8;refine ev_go (P:=Tryz.prog) tt tt_ok 5000 89 [.tmp 6] Tryz.func182 rfl Tryz.ntmps182 rfl (nL rfl) (fun E9 w9 hn9 hm9=>?_);refine loop_i (fun j st=>∃ e:Nat,st=svSt D K ⟨kind,at',lo,hi,most,names,es⟩ (manyN D (es.take e)) (moreB D K (es.take e)) e/\e<=es.length/\j=es.length - e) es.length (svSt D K ⟨kind,at',lo,hi,most,names,es⟩ 0 false 0) (weak_mk ⟨_,rfl⟩ wA rfl rfl rfl wB) ⟨0,by simp [manyN,moreB],by omega,by omega⟩ ?_;rintro j st ⟨e,rfl,he,rfl⟩;refine br (fun hL=>?_) (fun hL=>?_)
 ·have hlt:e < es.length:=by have:=hL;simp [dEds_len] at this;exact this
  obtain ⟨x,hx⟩:∃ x,es[e]? = some x:=⟨_,gE hlt⟩;have hxo:=hedge x (mG hx);have hth:=there_spec D hxo
  have hm:manyN D (es.take (e + 1))=manyN D (es.take e) + if thB D x=true then 1 else 0:=by
   rw [List.take_add_one,hx];simp [manyN,List.countP_cons]
  have hmo:moreB D K (es.take (e + 1))=(moreB D K (es.take e) || moB D K x):=by
   rw [List.take_add_one,hx];simp [moreB]
  have hml:manyN D (es.take e)<=e:=by
   have:manyN D (es.take e)<=(es.take e).length:=List.countP_le_length;rw [List.length_take] at this;omega
  refine ⟨_,⟨by omega,dEds_get hx⟩,?_⟩;refine call_bf en210 hth ax rfl rfl ?_;refine br (fun ht=>?_) (fun ht=>?_)
  ·have ht:thB D x=true:=ht;rw [if_pos ht] at hm;have hw:IntKind.i64.wrap (((manyN D (es.take e):Nat):Int) + 1)=((manyN D (es.take (e + 1)):Nat):Int):=by rw [hm,wrap64 (by omega) (by omega)];omega
   have hb2:moB D K x=(!x.bare && K.getD x.to.toNat false):=by unfold moB;rw [ht,Bool.true_and]
   rw [hb2] at hmo;refine br (fun g1=>?_) (fun g1=>?_)
   ·have g1:moreB D K (es.take e)=false:=by simpa [lastG] using g1
    refine br (fun g2=>?_) (fun g2=>?_)
    ·have g2:x.bare=false:=by simpa using g2
     obtain ⟨k,hk,hkl⟩:=hxo.to1 g2;obtain ⟨z,hz⟩:∃ z,K[k]? = some z:=⟨_,gE (by omega)⟩;refine ⟨_,⟨by omega,by rw [hk];exact dBo_get hz⟩,?_⟩;have e9:z=moreB D K (es.take (e + 1)):=by rw [hmo,g1,g2,hk];simp [List.getD_eq_getElem?_getD,hz]
     exact ⟨svSt D K ⟨kind,at',lo,hi,most,names,es⟩ (manyN D (es.take (e + 1))) (moreB D K (es.take (e + 1))) (e + 1),(weak_mk ⟨_,rfl⟩ wA rfl rfl rfl (by repeat' (first | exact trivial | exact we_rfl rfl | exact we_int hw | exact we_bool e9 | exact we_int (nxt hlt (by omega)) | refine ⟨⟨_,rfl,?_⟩,?_⟩))),es.length - (e + 1),by omega,e + 1,rfl,by omega,rfl⟩
    ·have g2:x.bare=true:=by simpa using g2
     have e9:false=moreB D K (es.take (e + 1)):=by rw [hmo,g1,g2];all_goals rfl
     exact ⟨svSt D K ⟨kind,at',lo,hi,most,names,es⟩ (manyN D (es.take (e + 1))) (moreB D K (es.take (e + 1))) (e + 1),(weak_mk ⟨_,rfl⟩ wA rfl rfl rfl (by repeat' (first | exact trivial | exact we_rfl rfl | exact we_int hw | exact we_bool e9 | exact we_int (nxt hlt (by omega)) | refine ⟨⟨_,rfl,?_⟩,?_⟩))),es.length - (e + 1),by omega,e + 1,rfl,by omega,rfl⟩
   ·have g1:moreB D K (es.take e)=true:=by simpa [lastG] using g1
    have e9:true=moreB D K (es.take (e + 1)):=by rw [hmo,g1];all_goals rfl
    exact ⟨svSt D K ⟨kind,at',lo,hi,most,names,es⟩ (manyN D (es.take (e + 1))) (moreB D K (es.take (e + 1))) (e + 1),(weak_mk ⟨_,rfl⟩ wA rfl rfl rfl (by repeat' (first | exact trivial | exact we_rfl rfl | exact we_int hw | exact we_bool e9 | exact we_int (nxt hlt (by omega)) | refine ⟨⟨_,rfl,?_⟩,?_⟩))),es.length - (e + 1),by omega,e + 1,rfl,by omega,rfl⟩
  ·have ht:thB D x=false:=ht;rw [if_neg (by rw [ht];simp),Nat.add_zero] at hm;have hb2:moB D K x=false:=by unfold moB;rw [ht];all_goals rfl
   rw [hb2,Bool.or_false] at hmo;exact ⟨svSt D K ⟨kind,at',lo,hi,most,names,es⟩ (manyN D (es.take (e + 1))) (moreB D K (es.take (e + 1))) (e + 1),(weak_mk ⟨_,rfl⟩ wA rfl rfl rfl (by repeat' (first | exact trivial | exact we_rfl rfl | exact we_int (congrArg Nat.cast hm.symm) | exact we_bool hmo.symm | exact we_int (nxt hlt (by omega)) | refine ⟨⟨_,rfl,?_⟩,?_⟩))),es.length - (e + 1),by omega,e + 1,rfl,by omega,rfl⟩
 ·have hge:e=es.length:=by have:=hL;simp [dEds_len] at this;omega
  subst hge;rw [List.take_length];refine br (fun c1=>?_) (fun c1=>?_)
  ·have c1:kind=1:=by simpa using c1
   refine (congrArg (fun b=>DV.v (.bool b)) ?_:_=_);simp [sevF,c1]
  have c1:¬ kind=1:=by simpa using c1
  refine br (fun c2=>?_) (fun c2=>?_)
  ·have c2:kind=2:=by simpa using c2
   refine (congrArg (fun b=>DV.v (.bool b)) ?_:_=_);simp [sevF,c2]
  have c2:¬ kind=2:=by simpa using c2
  refine br (fun c3=>?_) (fun c3=>?_)
  ·have c3:kind=3:=by simpa using c3
   refine (congrArg (fun b=>DV.v (.bool b)) ?_:_=_);simp [sevF,c3]
  have c3:¬ kind=3:=by simpa using c3
  refine br (fun c4=>?_) (fun c4=>?_)
  ·have c4:kind=4:=by simpa using c4
   refine (congrArg (fun b=>DV.v (.bool b)) ?_:_=_);simp [sevF,c4,dBs_len];omega
  have c4:¬ kind=4:=by simpa using c4
  refine br (fun c5=>?_) (fun c5=>?_)
  ·have c5:kind=5:=by simpa using c5
   refine (congrArg (fun b=>DV.v (.bool b)) ?_:_=_);simp [sevF,c5,pickB_and]
  have c5:¬ kind=5:=by simpa using c5
  refine br (fun c6=>?_) (fun c6=>?_)
  ·have c6:kind=6:=by simpa using c6
   refine (congrArg (fun b=>DV.v (.bool b)) ?_:_=_);simp [sevF,c6]
  have c6:¬ kind=6:=by simpa using c6
  refine br (fun c7=>?_) (fun c7=>?_)
  ·have c7:kind=7:=by simpa using c7
   refine (congrArg (fun b=>DV.v (.bool b)) ?_:_=_);rw [Bool.eq_iff_iff];simp [sevF,c7,pickB_and,dEds_len];omega
  have c7:¬ kind=7:=by simpa using c7
  refine (congrArg (fun b=>DV.v (.bool b)) ?_:_=_);rw [Bool.eq_iff_iff];have hc1:(1 < ((manyN D es:Nat):Int))↔1 < manyN D es:=by omega
  simp [sevF,c1,c2,c3,c4,c5,c6,c7,pickB_or,hc1]
abbrev sv1St (ND:List Nd) (D:List Nat) (K:List Bool) (c:Bool):St:=
 ⟨[(3,⟨[],.sl 7 (dNds ND) none⟩),(4,⟨[],.sl 1 (dInts D) none⟩),(5,⟨[],.ms 0 1 0 (dNds ND).length (dNds ND).length⟩),(6,⟨[],.v (.bool c)⟩)],[cB K],[]⟩
abbrev sv2St (ND:List Nd) (D:List Nat) (K:List Bool) (c:Bool) (e:Nat):St:=
 ⟨[(3,⟨[],.sl 7 (dNds ND) none⟩),(4,⟨[],.sl 1 (dInts D) none⟩),(5,⟨[],.ms 0 1 0 (dNds ND).length (dNds ND).length⟩),(6,⟨[],.v (.bool c)⟩),(17,⟨[],.sl 7 (dNds ND) none⟩),(18,⟨[],.v (.int .i64 (dNds ND).length)⟩),(19,⟨[],.v (.int .i64 e)⟩)],[cB K],[]⟩
theorem severals_gen {L:Nat} {ND:List Nd} {p:DV} (h0:EvP Tryz.prog 180 [p] (.sl 7 (dNds ND) none)) (h1:EvP Tryz.prog 120 [p] (.sl 1 (dInts (depN ND ND.length)) none)) (hok:∀ n∈ND,NdOK L ND.length n) (hnl:ND.length<=1099511627776) (hsz:∀ n∈ND,n.edges.length<=1099511627776) (hcc:∀ bx N n m,Cc bx N n m p p) :
  EvP Tryz.prog 121 [p] (.sl 1 (dBo (sevS ND (depN ND ND.length))) none):=by
 have hdl:=dNds_len ND;have hl:=depN_len ND ND.length;generalize depN ND ND.length=D at h1 hl ⊢;refine ev_go (P:=Tryz.prog) tt tt_ok 5000 40 [.tmp 2] Tryz.func121 rfl Tryz.ntmps121 rfl (nL rfl) (fun E9 w9 hn9 hm9=>?_);refine call_p en180 (h0) (by repeat' (first | exact rfl | exact trivial | exact Or.inr (Or.inl ⟨_,rfl⟩) | exact Or.inr ⟨_,rfl⟩ | exact Or.inl ⟨rfl,rfl⟩ | exact Or.inl rfl | refine Or.inr ⟨_,_,rfl,Nat.zero_le _,rfl,?_⟩ | refine ⟨_,_,rfl,?_,?_⟩ | refine ⟨_,rfl,?_⟩ | exact hcc _ _ _ _| refine Or.inr (Or.inr (Or.inr ⟨_,_,rfl,?_⟩)) | exact Or.inl rfl | refine Or.inr ?_)) rfl ?_;refine call_p en120 (h1) (by repeat' (first | exact rfl | exact trivial | exact Or.inr (Or.inl ⟨_,rfl⟩) | exact Or.inr ⟨_,rfl⟩ | exact Or.inl ⟨rfl,rfl⟩ | exact Or.inl rfl | refine Or.inr ⟨_,_,rfl,Nat.zero_le _,rfl,?_⟩ | refine ⟨_,_,rfl,?_,?_⟩ | refine ⟨_,rfl,?_⟩ | exact hcc _ _ _ _| refine Or.inr (Or.inr (Or.inr ⟨_,_,rfl,?_⟩)) | exact Or.inl rfl | refine Or.inr ?_)) rfl ?_;refine ⟨⟨rfl,by omega,by rw [hdl];omega,by rw [hdl];omega⟩,?_⟩;refine loop_i (fun j st=>∃ (K:List Bool) (c:Bool),st=sv1St ND D K c/\K.length=ND.length/\LeB K (sevS ND D)/\(c=false->∀ j n,ND[j]? = some n->sevF n D K=true->K.getD j false=true)/\j=ND.length - cntB K + if c=true then 1 else 0) (ND.length + 1) (sv1St ND D (List.replicate ((dNds ND).length:Int).toNat false) true) (weak_b 1 rfl (by repeat' (first | exact rfl | exact we_rfl rfl | exact weL_cB (repB _) | refine ⟨_,_,rfl,?_,?_⟩)) rfl rfl rfl (by repeat' (first | exact trivial | exact we_rfl rfl | exact weL_cB (repB _) | refine ⟨⟨_,rfl,?_⟩,?_⟩))) ⟨_,_,rfl,?_,?_,by simp,?_⟩ ?_
 ·rw [List.length_replicate,hdl];omega
 ·intro j hj;rw [List.getD_eq_getElem?_getD,List.getElem?_replicate] at hj;split at hj<;>cases hj
 ·have:cntB (List.replicate ((dNds ND).length:Int).toNat false)=0:=by unfold cntB;rw [List.countP_replicate];simp
  rw [this];simp
 rintro j st ⟨K,c,rfl,hK,hle,hcl,rfl⟩;refine br (fun hc=>?_) (fun hc=>?_)
 ·have hc:c=true:=hc;subst hc;refine loop_i (fun j st=>∃ (e:Nat) (K':List Bool) (c':Bool),st=sv2St ND D K' c' e/\e<=ND.length/\K'.length=ND.length/\LeB K' (sevS ND D)/\(c'=true->cntB K < cntB K')/\(c'=false->K'=K/\∀ i n,i < e->ND[i]? = some n->sevF n D K=true->K.getD i false=true)/\j=ND.length - e) ND.length (sv2St ND D K false 0) (weak_b 1 rfl (by repeat' (first | exact rfl | exact we_rfl rfl | exact weL_cB rfl | refine ⟨_,_,rfl,?_,?_⟩)) rfl rfl rfl (by repeat' (first | exact trivial | exact we_rfl rfl | exact weL_cB rfl | refine ⟨⟨_,rfl,?_⟩,?_⟩))) ⟨0,K,false,rfl,by omega,hK,hle,by simp,fun _=>⟨rfl,fun i _ hi=>by omega⟩,by omega⟩ ?_;rintro j st ⟨e,K',c',rfl,he,hK',hle',ht,hf,rfl⟩;refine br (fun hL=>?_) (fun hL=>?_)
  ·have hlt:e < ND.length:=by have:=hL;simp [hdl] at this;exact this
   obtain ⟨n,hn⟩:∃ n,ND[e]? = some n:=⟨_,gE hlt⟩;have hnm:=mG hn;obtain ⟨b,hb⟩:∃ b,K'[e]? = some b:=⟨_,gE (by omega)⟩;have hsv:=several_spec D K' (by omega) (by omega) (n:=n) (by rw [hl];exact hok n hnm) (hsz n hnm);refine ⟨_,⟨by omega,dNds_get hn⟩,?_⟩;refine ⟨⟨by omega,by rw [hdl];omega⟩,?_⟩;refine ⟨DV.v (.bool b),(by rw [show 0 + (e:Int).toNat * 1=e by omega];exact cB_get hb),?_⟩;have hgd:K'.getD e false=b:=by rw [List.getD_eq_getElem?_getD,hb];all_goals rfl
   have hcd:cntB K<=cntB K':=by
    cases c' with
    | true=>have:=ht rfl;omega
    | false=>rw [(hf rfl).1];omega
   refine br (fun g=>?_) (fun g=>?_)
   ·have g:b=false:=by simpa using g
    refine call_bf en182 hsv ⟨_,_,rfl,ax,_,_,rfl,ax,_,_,rfl,ms_b (by rw [hK',hdl]) (Nat.le_refl _) rfl,rfl⟩ rfl rfl ?_;refine br (fun g2=>?_) (fun g2=>?_)
    ·have g2:sevF n D K'=true:=by simpa [pickB,pickD] using g2
     refine ⟨⟨by omega,by rw [hdl];omega⟩,?_⟩;refine ⟨by rw [cB_len];omega,?_⟩
     have hst:(cB K').set (0 + (e:Int).toNat * 1) (DV.v (.bool true))=cB (K'.set e true):=by
      rw [show 0 + (e:Int).toNat * 1=e by omega,cB_set]
     have hcs:=cntB_set (K:=K') (i:=e) (by omega) (by rw [hgd];exact g);exact ⟨sv2St ND D (K'.set e true) true (e + 1),(weak_b 1 rfl (by repeat' (first | exact rfl | exact we_rfl rfl | exact weL_cB hst | exact we_int (nxt hlt (by omega)) | refine ⟨_,_,rfl,?_,?_⟩)) rfl rfl rfl (by repeat' (first | exact trivial | exact we_rfl rfl | exact weL_cB hst | exact we_int (nxt hlt (by omega)) | refine ⟨⟨_,rfl,?_⟩,?_⟩))),ND.length - (e + 1),by omega,e + 1,_,true,rfl,by omega,by rw [List.length_set];exact hK',sevS_set hle' hn g2,fun _=>by omega,fun h=>(by cases h),rfl⟩
    ·have g2:sevF n D K'=false:=by simpa [pickB,pickD] using g2
     refine ⟨sv2St ND D K' c' (e + 1),(weak_b 1 rfl (by repeat' (first | exact rfl | exact we_rfl rfl | exact weL_cB rfl | exact we_int (nxt hlt (by omega)) | refine ⟨_,_,rfl,?_,?_⟩)) rfl rfl rfl (by repeat' (first | exact trivial | exact we_rfl rfl | exact weL_cB rfl | exact we_int (nxt hlt (by omega)) | refine ⟨⟨_,rfl,?_⟩,?_⟩))),ND.length - (e + 1),by omega,e + 1,K',c',rfl,by omega,hK',hle',ht,fun hc=>⟨(hf hc).1,fun i m hi hm hs=>?_⟩,rfl⟩;rcases Nat.lt_succ_iff_lt_or_eq.1 hi with hi | rfl
     ·exact (hf hc).2 i m hi hm hs
     ·rw [hn] at hm;cases hm;rw [(hf hc).1] at g2;rw [g2] at hs;cases hs
   ·have g:b=true:=by simpa using g
    refine ⟨sv2St ND D K' c' (e + 1),(weak_b 1 rfl (by repeat' (first | exact rfl | exact we_rfl rfl | exact weL_cB rfl | exact we_int (nxt hlt (by omega)) | refine ⟨_,_,rfl,?_,?_⟩)) rfl rfl rfl (by repeat' (first | exact trivial | exact we_rfl rfl | exact weL_cB rfl | exact we_int (nxt hlt (by omega)) | refine ⟨⟨_,rfl,?_⟩,?_⟩))),ND.length - (e + 1),by omega,e + 1,K',c',rfl,by omega,hK',hle',ht,fun hc=>⟨(hf hc).1,fun i m hi hm hs=>?_⟩,rfl⟩;rcases Nat.lt_succ_iff_lt_or_eq.1 hi with hi | rfl
    ·exact (hf hc).2 i m hi hm hs
    ·rw [<- (hf hc).1,hgd];exact g
  ·have hge:e=ND.length:=by have:=hL;simp [hdl] at this;omega
   subst hge;have hcn:=cntB_le K';refine ⟨sv1St ND D K' c',(weak_mk ⟨_,rfl⟩ (by repeat' (first | exact rfl | exact we_rfl rfl | exact weL_cB rfl | refine ⟨_,_,rfl,?_,?_⟩)) rfl rfl rfl (by repeat' (first | exact trivial | exact we_rfl rfl | exact weL_cB rfl | refine ⟨⟨_,rfl,?_⟩,?_⟩))),ND.length - cntB K' + (if c'=true then 1 else 0),?_,K',c',rfl,hK',hle',?_,rfl⟩
   ·cases c' with
    | true=>have:=ht rfl;simp;omega
    | false=>rw [(hf rfl).1];simp
   ·intro hcf j n hn hs;obtain ⟨h2,h3⟩:=hf hcf;subst h2;exact h3 j n (gS hn).1 hn hs
 ·have hc:c=false:=hc;rw [<- sevS_eq hK hle (hcl hc)];exact ⟨_,ms_b (by rw [hK,hdl]) (Nat.zero_le _) rfl,rfl⟩
theorem severals_spec {S:Sch} {ND:List Nd} {PC:List DV} (hP:PlanR S ND PC):EvP Tryz.prog 121 [.pt PC 0] (.sl 1 (dBo (sevS ND (depN ND ND.length))) none):=
 severals_gen (nodes19_spec hP) (depths_spec hP) hP.ok hP.nl hP.esz fun _ _ _ _=>ax
end Go.Proofs.YtadhpeooehkklaaGreat
set_option maxRecDepth 100000
namespace Go.Proofs.YtadhpeooehkklaaGreat
open Go Go.RowKit Dv Tryz
end Go.Proofs.YtadhpeooehkklaaGreat
set_option maxRecDepth 100000
namespace Go.Proofs.YtadhpeooehkklaaGreat
open Go Go.RowKit Dv Tryz
theorem getD_set {L:List Nat} {i e v:Nat} (he:e < L.length):(L.set e v).getD i 0=if i=e then v else L.getD i 0:=by
 by_cases h:i=e
 ·subst h;rw [if_pos rfl,List.getD_eq_getElem?_getD,List.getElem?_set_self he];all_goals rfl
 ·rw [if_neg h,List.getD_eq_getElem?_getD,List.getElem?_set_ne (Ne.symm h),<- List.getD_eq_getElem?_getD]
def dpE (D:List Nat) (e:Ed):Nat:=if e.bare=true then 0 else edN D e
def minP (D:List Nat) (es:List Ed) (k:Nat):Bool:=match es[k]? with | some e=>thB D e && es.all (fun x=>!thB D x || decide (dpE D e<=dpE D x)) | none=>false
def chooseF (D:List Nat) (es:List Ed):Option Nat:=firstN (minP D es) es.length
theorem minP_iff {D:List Nat} {es:List Ed} {k:Nat}:minP D es k=true↔∃ e,es[k]? = some e/\thB D e=true/\∀ x∈es,thB D x=true->dpE D e<=dpE D x:=by
 unfold minP
 cases h:es[k]? with
 | none=>simp
 | some e=>
  simp only [Bool.and_eq_true,List.all_eq_true,Bool.or_eq_true,Bool.not_eq_true',decide_eq_true_eq,oI,exists_eq_left'];refine and_congr_right fun _=>forall_congr' fun x=>forall_congr' fun _=>?_;cases thB D x<;>simp
theorem choose_of {D:List Nat} {es:List Ed} {k:Nat} {e:Ed} (h:es[k]? = some e) (ht:thB D e=true) (h1:∀ x∈es,thB D x=true->dpE D e<=dpE D x) (h2:∀ j x,j < k->es[j]? = some x->thB D x=true->dpE D e < dpE D x):chooseF D es=some k:=by
 refine firstN_some (gS h).1 (minP_iff.2 ⟨e,h,ht,h1⟩) fun j hj=>?_
 cases hm:minP D es j with
 | false=>rfl
 | true=>
  obtain ⟨x,hx,hxt,hxm⟩:=minP_iff.1 hm;have:=h2 j x hj hx hxt;have:=hxm e (mG h) ht;omega
theorem choose_none {D:List Nat} {es:List Ed} (h:∀ x∈es,thB D x=false):chooseF D es=none:=by
 refine firstN_none fun j _=>?_
 cases hm:minP D es j with
 | false=>rfl
 | true=>
  obtain ⟨x,hx,hxt,_⟩:=minP_iff.1 hm;rw [h x (mG hx)] at hxt;cases hxt
theorem choose_some {D:List Nat} {es:List Ed} {k:Nat} (h:chooseF D es=some k):∃ e,es[k]? = some e/\thB D e=true/\∀ x∈es,thB D x=true->dpE D e<=dpE D x:=minP_iff.1 (firstN_spec h).2.1
theorem choose_ex {D:List Nat}:∀ (m:Nat) {es:List Ed} {x:Ed},x∈es->thB D x=true->dpE D x<=m->∃ k,chooseF D es=some k:=by
 intro m
 induction m with
 | zero=>
  intro es x hx ht hm
  cases hc:chooseF D es with
  | some k=>exact ⟨k,rfl⟩
  | none=>
   obtain ⟨j,hj,rfl⟩:=List.getElem_of_mem hx;have:=firstN_none_iff hc j hj;rw [minP_iff.2 ⟨_,gE hj,ht,fun y _ _=>by omega⟩] at this;cases this
 | succ m ih=>
  intro es x hx ht hm;by_cases hy:∃ y∈es,thB D y=true/\dpE D y<=m
  ·obtain ⟨y,h1,h2,h3⟩:=hy;exact ih h1 h2 h3
  ·cases hc:chooseF D es with
   | some k=>exact ⟨k,rfl⟩
   | none=>
    obtain ⟨j,hj,rfl⟩:=List.getElem_of_mem hx;have:=firstN_none_iff hc j hj
    rw [minP_iff.2 ⟨_,gE hj,ht,fun y h1 h2=>by
     refine Nat.le_of_not_lt fun h=>hy ⟨y,h1,h2,by omega⟩⟩] at this
    cases this
def turnP (D:List Nat) (es:List Ed) (k:Nat):Bool:=decide (chooseF D es≠some k) && (match es[k]? with | some e=>thB D e | none=>false)
def turnF (D:List Nat) (es:List Ed):Option Nat:=firstN (turnP D es) es.length
theorem turnP_at {D:List Nat} {es:List Ed} {k:Nat} {e:Ed} (h:es[k]? = some e):turnP D es k=(decide (chooseF D es≠some k) && thB D e):=by unfold turnP;rw [h]
theorem turn_some {D:List Nat} {es:List Ed} {k:Nat} (h:turnF D es=some k):∃ e,es[k]? = some e/\thB D e=true:=by
 obtain ⟨h1,h2,_⟩:=firstN_spec h;have he:=gE h1;rw [turnP_at he,Bool.and_eq_true] at h2;exact ⟨_,he,h2.2⟩
theorem turn_none {D:List Nat} {es:List Ed} (h:turnF D es=none) {k:Nat} {e:Ed} (he:es[k]? = some e) (ht:thB D e=true):chooseF D es=some k:=by
 have:=firstN_none_iff h k (gS he).1;rw [turnP_at he,ht,Bool.and_true,decide_eq_false_iff_not] at this;exact Classical.not_not.1 this
def chgP (K:List Bool) (es:List Ed) (k:Nat):Bool:=match es[k]? with | some e=>K.getD e.to.toNat false | none=>false
def chgF (K:List Bool) (es:List Ed):Option Nat:=firstN (chgP K es) es.length
def cutM (n:Nat):Nat:=min n 4097
theorem cutM_le (n:Nat):cutM n<=4097:=Nat.min_le_right _ _
def prtF (sz:List Nat) (e:Ed):Nat:=if e.bare=true then 0 else edN sz e
def sumX (sz:List Nat) (at':Int):List Ed->Nat->Nat->Nat
 | [],_,n=>n
 | e :: r,i,n=>sumX sz at' r (i + 1) (if (i:Int)=at' then n else cutM (n + prtF sz e))
theorem sumX_le {sz:List Nat} {c:Int}:∀ {es:List Ed} {i n:Nat},n<=4097->sumX sz c es i n<=4097
 | [],_,_,h=>h
 | e :: r,i,n,h=>by
  rw [sumX];refine sumX_le ?_;split
  ·exact h
  ·exact cutM_le _
theorem sumX_ge {sz:List Nat} {c:Int}:∀ {es:List Ed} {i n:Nat},n<=4097->n<=sumX sz c es i n
 | [],_,_,_=>Nat.le_refl _
 | e :: r,i,n,h=>by
  rw [sumX];split
  ·exact sumX_ge h
  ·refine Nat.le_trans ?_ (sumX_ge (cutM_le _));unfold cutM;omega
theorem sumX_snoc (sz:List Nat) (c:Int):∀ (es:List Ed) (e:Ed) (i n:Nat),sumX sz c (es ++ [e]) i n=if ((i + es.length:Nat):Int)=c then sumX sz c es i n else cutM (sumX sz c es i n + prtF sz e)
 | [],e,i,n=>by simp [sumX]
 | x :: r,e,i,n=>by
  rw [List.cons_append,sumX,sumX_snoc sz c r,sumX,List.length_cons,show i + 1 + r.length=i + (r.length + 1) by omega]
def sizeF (sz D:List Nat) (n:Nd):Nat:=
 if n.kind=7 then sumX sz (-1) n.edges 0 1
 else if n.kind=8 then (match chooseF D n.edges with | some c=>(match n.edges[c]? with | some e=>cutM (1 + prtF sz e) | none=>1) | none=>1)
 else 1
def othS (sz D:List Nat) (K:List Bool) (n:Nd):Nat × Option Nat:=
 if n.kind=5∨n.kind=6 then (match n.edges[0]? with | some e=>(cutM (1 + prtF sz e),none) | none=>(1,none))
 else if n.kind=7 then (match chgF K n.edges with | some c=>(match n.edges[c]? with | some e=>(sumX sz c n.edges 0 1,some e.to.toNat) | none=>(1,none)) | none=>(1,none))
 else if n.kind=8 then (match turnF D n.edges with
  | some c=>(match n.edges[c]? with | some e=>(cutM (1 + prtF sz e),none) | none=>(1,none))
  | none=>(match chooseF D n.edges with | some c=>(match n.edges[c]? with | some e=>(1,some e.to.toNat) | none=>(1,none)) | none=>(1,none)))
 else (1,none)
def othE (t:List Nat) (k:Nat × Option Nat):Nat:=match k.2 with
 | none=>k.1
 | some j=>if t.getD j 0=0 then 0 else cutM (k.1 + t.getD j 0)
theorem othS_pos (sz D:List Nat) (K:List Bool) (n:Nd):1<=(othS sz D K n).1/\(othS sz D K n).1<=4097:=by
 have h1:∀ e,1<=cutM (1 + prtF sz e)/\cutM (1 + prtF sz e)<=4097:=fun e=>by unfold cutM;omega
 have h2:∀ c,1<=sumX sz c n.edges 0 1/\sumX sz c n.edges 0 1<=4097:=fun c=>⟨sumX_ge (by omega),sumX_le (by omega)⟩;unfold othS
 repeat' split
 all_goals first | exact h1 _ | exact h2 _ | exact ⟨Nat.le_refl 1,(by decide:(1:Nat)<=4097)⟩
end Go.Proofs.YtadhpeooehkklaaGreat
set_option maxRecDepth 100000
namespace Go.Proofs.YtadhpeooehkklaaGreat
open Go Go.RowKit
namespace Dv
def putN (sl:List (Nat × Sl)) (dst:Option Nat) (gs:List (Nat × Bool)) (s:DV) (K:List (Nat × Sl)->Prop):Prop:=
 match dst with
 | none=>K sl
 | some d=>K ((d,⟨gs,s⟩) :: sl)
def effN (X:Ctx) (bx:List (List DV)) (sl:List (Nat × Sl)) (op:Op) (K:DV->Prop):Prop:=
 match isL op with
 | true=>optP (effR X ⟨sl,bx,[]⟩ op K)
 | false=>optP (effR X ⟨sl,[],[]⟩ op K)
def goN (X:Ctx) (ops:Array Oper) (bx:List (List DV)) (F:List (Nat × Sl)->Prop):Nat->List Oper->List (Nat × Sl)->Prop
 | _,[],sl=>F sl
 | 0,_ :: _,_=>False
 | n + 1,o :: r,sl=>
  match okD X.nt sl o.dst with
  | false=>False
  | true=>
   match isE o.op with
   | true=>False
   | false=>
    match o.guard with
    | none=>
     match pureT X.P X.T ⟨sl,bx,[]⟩ [] o.op with
     | some s=>putN sl o.dst [] s (goN X ops bx F n r)
     | none=>
      match isL o.op || (pureT X.P X.T ⟨sl,[],[]⟩ [] o.op).isNone with
      | false=>False
      | true=>effN X bx sl o.op fun s=>putN sl o.dst [] s (goN X ops bx F n r)
    | some (j,want)=>
     match gslot ops.toList j with
     | none=>False
     | some d=>
      match get sl d with
      | none=>False
      | some ⟨gsd,_⟩=>
       match pureT X.P X.T ⟨sl,bx,[]⟩ ((d,want) :: gsd) o.op with
       | some s=>
        match okG ((d,want) :: gsd) o.dst with
        | true=>putN sl o.dst ((d,want) :: gsd) s (goN X ops bx F n r)
        | false=>False
       | none=>
        match isL o.op || (pureT X.P X.T ⟨sl,[],[]⟩ ((d,want) :: gsd) o.op).isNone with
        | false=>False
        | true=>
         match get sl (lastG (d,want) gsd).1 with
         | some ⟨[],.v (.bool b)⟩=>
          match gsd with
          | []=>Br (b == want)
            (resL d want sl fun s2=>effN X bx s2 o.op fun s=>putN s2 o.dst [] s (goN X ops bx F n r))
            (resL d (!want) sl fun s2=>putN s2 o.dst [] .ud (goN X ops bx F n r))
          | _ :: _=>Br (b == (lastG (d,want) gsd).2)
            (resL (lastG (d,want) gsd).1 (lastG (d,want) gsd).2 sl fun s2=>goN X ops bx F n (o :: r) s2)
            (resL (lastG (d,want) gsd).1 (!(lastG (d,want) gsd).2) sl fun s2=>goN X ops bx F n (o :: r) s2)
         | some ⟨[],.ud⟩=>
          match gsd with
          | []=>putN sl o.dst [] .ud (goN X ops bx F n r)
          | _ :: _=>False
         | _=>False
section
variable {X:Ctx} {ops:Array Oper} {bx:List (List DV)} {tk:List TkE} {W:Nat->Bool} {k:List It} {s00:List (Nat × Sl)} {t00:List TkE}
theorem putN_2 {sl:List (Nat × Sl)} {dst:Option Nat} {gs:List (Nat × Bool)} {s:DV} {K:List (Nat × Sl)->Prop} {K2:List (Nat × Sl)->St->Prop} (h:putN sl dst gs s K) (hK:∀ l,K l->K2 l ⟨l,bx,tk⟩):put2 sl ⟨sl,bx,tk⟩ dst true gs s K2:=by
 cases dst with
 | none=>exact hK _ h
 | some d=>exact hK _ h
theorem effR_mono {st:St} {op:Op} {K K2:DV->Prop} (hK:∀ s,K s->K2 s):optP (effR X st op K)->optP (effR X st op K2):=by
 unfold effR
 repeat' split
 all_goals first | exact id | exact fun h=>⟨h.1,hK _ h.2⟩ | exact fun ⟨d,h⟩=>⟨d,h.1,hK _ h.2⟩
theorem effN_D {sl:List (Nat × Sl)} {op:Op} {K:DV->Prop} {K2:Bool->DV->Prop} {D:Dr} (hb:D.st0.bx=bx) (hE:isE op=false) (hK:∀ s,K s->K2 true s) (h:effN X bx sl op K):optP (eR X D true sl ⟨sl,bx,tk⟩ op K2):=by
 unfold effN at h;unfold eR;rw [hE];simp only
 cases hl:isL op with
 | true=>
  rw [hl] at h;simp only at h ⊢;rw [hb];exact effR_mono hK h
 | false=>
  rw [hl] at h;simp only at h ⊢;have:=effR_mono hK h
  cases hq:effR X ⟨sl,[],[]⟩ op (K2 true) with
  | none=>rw [hq] at this;exact this.elim
  | some p=>rw [hq] at this;exact this
theorem goN_D (st0:St) (hb:st0.bx=bx):∀ (n:Nat) (r:List Oper) (i:Nat) (sl:List (Nat × Sl)),goN X ops bx (fun sl=>go X 4000 k ⟨sl,bx,tk⟩) n r sl->goD X ⟨ops,W,k,st0,none⟩ n true (nOps i r) sl ⟨sl,bx,tk⟩
 | 0,[],i,sl,h=>h
 | n + 1,[],i,sl,h=>h
 | 0,_ :: _,_,_,h=>h.elim
 | n + 1,o :: r,i,sl,h=>by
  have ih:=goN_D st0 hb n r (i + 1);have ih2:=goN_D st0 hb n (o :: r) i;show goD X ⟨ops,W,k,st0,none⟩ (n + 1) true ((i,o) :: nOps (i + 1) r) sl ⟨sl,bx,tk⟩;simp only [goN] at h;simp only [goD]
  cases hok:okD X.nt sl o.dst with
  | false=>rw [hok] at h;exact h.elim
  | true=>
  rw [hok] at h;simp only [Bool.and_self] at h ⊢
  cases hE:isE o.op with
  | true=>rw [hE] at h;exact h.elim
  | false=>
  rw [hE] at h;simp only at h ⊢
  have hpR1:∀ G s,pureT X.P X.T ⟨sl,bx,[]⟩ G o.op=some s->pR X ⟨ops,W,k,st0,none⟩ true sl ⟨sl,bx,tk⟩ G o.op=some (true,s):=fun G s hs=>by
   unfold pR;rw [hE,hb];simp only [Bool.not_false,Bool.or_true,Bool.and_self,hs]
  have hpR0:∀ G,pureT X.P X.T ⟨sl,bx,[]⟩ G o.op=none->(isL o.op || (pureT X.P X.T ⟨sl,[],[]⟩ G o.op).isNone)=true->pR X ⟨ops,W,k,st0,none⟩ true sl ⟨sl,bx,tk⟩ G o.op=none:=fun G hs h2=>by
   unfold pR;rw [hE,hb];simp only [Bool.not_false,Bool.or_true,Bool.and_self,hs]
   cases hl:isL o.op with
   | true=>rfl
   | false=>
    rw [hl,Bool.false_or,Option.isNone_iff_eq_none] at h2;rw [h2]
  cases hg:o.guard with
  | none=>
   rw [hg] at h;simp only at h ⊢
   cases hp:pureT X.P X.T ⟨sl,bx,[]⟩ [] o.op with
   | some s=>
    rw [hp] at h;rw [hpR1 _ _ hp];exact putN_2 h ih
   | none=>
    rw [hp] at h;simp only at h
    cases h2:(isL o.op || (pureT X.P X.T ⟨sl,[],[]⟩ [] o.op).isNone) with
    | false=>rw [h2] at h;exact h.elim
    | true=>
     rw [h2] at h;rw [hpR0 _ hp h2];exact effN_D hb hE (fun s hs=>putN_2 hs ih) h
  | some jw=>
   obtain ⟨j,want⟩:=jw;rw [hg] at h;simp only at h ⊢
   cases hgs:gslot ops.toList j with
   | none=>rw [hgs] at h;exact h.elim
   | some d=>
   rw [hgs] at h;simp only at h ⊢
   cases hd:get sl d with
   | none=>rw [hd] at h;exact h.elim
   | some x=>
   obtain ⟨gsd,xs⟩:=x;rw [hd] at h;simp only at h ⊢
   cases hp:pureT X.P X.T ⟨sl,bx,[]⟩ ((d,want) :: gsd) o.op with
   | some s=>
    rw [hp] at h;rw [hpR1 _ _ hp];simp only at h ⊢
    cases hG:okG ((d,want) :: gsd) o.dst with
    | false=>rw [hG] at h;exact h.elim
    | true=>
     rw [hG] at h;exact putN_2 h ih
   | none=>
    rw [hp] at h;simp only at h
    cases h2:(isL o.op || (pureT X.P X.T ⟨sl,[],[]⟩ ((d,want) :: gsd) o.op).isNone) with
    | false=>rw [h2] at h;exact h.elim
    | true=>
    rw [h2] at h;rw [hpR0 _ hp h2];simp only at h ⊢
    cases hl:get sl (lastG (d,want) gsd).1 with
    | none=>rw [hl] at h;exact h.elim
    | some y=>
    obtain ⟨gy,sy⟩:=y;rw [hl] at h;simp only [resK,resL_eq] at h ⊢;split at h
    ·rename_i b hy;simp only [oI,Sl.mk.injEq] at hy;obtain ⟨rfl,rfl⟩:=hy;simp only
     cases gsd with
     | nil=>
      simp only at h ⊢;unfold Br at h ⊢
      cases hbw:(b == want) with
      | true=>
       rw [hbw] at h;exact effN_D hb hE (fun s hs=>putN_2 hs ih) h
      | false=>
       rw [hbw] at h;simp only [Bool.or_true] at h ⊢;exact putN_2 h ih
     | cons q gs=>
      simp only at h ⊢;unfold Br at h ⊢
      cases hbw:(b == (lastG (d,want) (q :: gs)).2) with
      | true=>rw [hbw] at h;exact ih2 _ h
      | false=>rw [hbw] at h;exact ih2 _ h
    ·rename_i hy;simp only [oI,Sl.mk.injEq] at hy;obtain ⟨rfl,rfl⟩:=hy
     cases gsd with
     | nil=>
      simp only [Bool.or_true] at h ⊢;exact putN_2 h ih
     | cons q gs=>exact h.elim
    ·exact h.elim
theorem drawG_n {id:Nat} {st:St} (hm:X.P.follows .mixedOrders=true) (hc:chkB ops (fun _=>false)=true)
  (h:goN X ops st.bx (fun sl=>go X 4000 k ⟨sl,st.bx,st.tk⟩) 3000 ops.toList st.sl):DrawG X id ops k st:=drawG_i (fun _=>false) hm hc (goN_D st rfl 3000 ops.toList 0 st.sl h)
end
end Dv
end Go.Proofs.YtadhpeooehkklaaGreat
set_option maxRecDepth 100000
namespace Go.Proofs.YtadhpeooehkklaaGreat
open Go Go.RowKit Dv Tryz
abbrev mkD (PC:List DV) (ND:List Nd) (D:List Nat) (K:List Bool) (sz ot:List Nat):List DV:=[.pt PC 0,.sl 7 (dNds ND) none,.sl 1 (dInts D) none,.sl 1 (dBo K) none,.sl 1 (dInts sz) none,.sl 1 (dInts ot) none]
theorem scut_spec (n:Nat):EvP Tryz.prog 126 [.v (.int .i64 n)] (.v (.int .i64 (cutM n:Nat))):=by
 refine ev_go (P:=Tryz.prog) tt tt_ok 5000 5 [.tmp 2] Tryz.func126 rfl Tryz.ntmps126 rfl (nL rfl) (fun E9 w9 hn9 hm9=>?_);refine (congrArg (fun z=>DV.v (.int .i64 z)) ?_:_=_);unfold cutM;omega
section
variable (PC:List DV) (ND:List Nd) (D:List Nat) (K:List Bool) (sz ot:List Nat) {L:Nat}
abbrev chsSt (n:Nd) (b:Option Nat) (e:Nat):St:=
 ⟨[(0,⟨[],.pt (mkD PC ND D K sz ot) 0⟩),(3,⟨[],.loc 0 0⟩),(5,⟨[],.v (.int .i64 (oz b))⟩),(9,⟨[],.sl 10 (dEds n.edges) none⟩),(10,⟨[],.v (.int .i64 (dEds n.edges).length)⟩),(11,⟨[],.v (.int .i64 e)⟩)],[dNd n],[]⟩
structure BestI (D:List Nat) (es:List Ed) (e:Nat) (b:Option Nat):Prop where
 nb:∀ (j:Nat) x,j < e->es[j]? = some x->x.bare=false
 no:b=none->∀ (j:Nat) x,j < e->es[j]? = some x->thB D x=false
 yes:∀ k,b=some k->∃ x,k < e/\es[k]? = some x/\thB D x=true/\(∀ (j:Nat) y,j < e->es[j]? = some y->thB D y=true->edN D x<=edN D y)/\∀ (j:Nat) y,j < k->es[j]? = some y->thB D y=true->edN D x < edN D y
theorem BestI.step {es:List Ed} {e:Nat} {b b':Option Nat} {x:Ed} (hB:BestI D es e b) (hx:es[e]? = some x) (hb:x.bare=false)
  (h:(thB D x=false/\b'=b)∨(thB D x=true/\(∃ k y,b=some k/\es[k]? = some y/\edN D y<=edN D x)/\b'=b)∨(thB D x=true/\(b=none∨∃ k y,b=some k/\es[k]? = some y/\edN D x < edN D y)/\b'=some e)):BestI D es (e + 1) b':=by
 have hnb:∀ (j:Nat) y,j < e + 1->es[j]? = some y->y.bare=false:=fun j y hj hy=>by
  rcases Nat.lt_succ_iff_lt_or_eq.1 hj with h1 | rfl
  ·exact hB.nb j y h1 hy
  ·rw [hx] at hy;cases hy;exact hb
 rcases h with ⟨ht,rfl⟩ | ⟨ht,⟨k,y,rfl,hy,hle⟩,rfl⟩ | ⟨ht,hc,rfl⟩
 ·refine ⟨hnb,fun hn j y hj hy=>?_,fun k hk=>?_⟩
  ·rcases Nat.lt_succ_iff_lt_or_eq.1 hj with h1 | rfl
   ·exact hB.no hn j y h1 hy
   ·rw [hx] at hy;cases hy;exact ht
  ·obtain ⟨z,h1,h2,h3,h4,h5⟩:=hB.yes k hk;refine ⟨z,by omega,h2,h3,fun j y hj hy hty=>?_,h5⟩;rcases Nat.lt_succ_iff_lt_or_eq.1 hj with h6 | rfl
   ·exact h4 j y h6 hy hty
   ·rw [hx] at hy;cases hy;rw [ht] at hty;cases hty
 ·refine ⟨hnb,fun hn=>(by cases hn),fun k' hk=>?_⟩;cases hk;obtain ⟨z,h1,h2,h3,h4,h5⟩:=hB.yes k rfl;rw [hy] at h2;cases h2;refine ⟨_,by omega,hy,h3,fun j w hj hw hty=>?_,h5⟩;rcases Nat.lt_succ_iff_lt_or_eq.1 hj with h6 | rfl
  ·exact h4 j w h6 hw hty
  ·rw [hx] at hw;cases hw;exact hle
 ·have hlt:∀ (j:Nat) w,j < e->es[j]? = some w->thB D w=true->edN D x < edN D w:=fun j w hj hw hty=>by
   rcases hc with rfl | ⟨k,y,rfl,hy,hl⟩
   ·rw [hB.no rfl j w hj hw] at hty;cases hty
   ·obtain ⟨z,h1,h2,h3,h4,h5⟩:=hB.yes k rfl;rw [hy] at h2;cases h2;have:=h4 j w hj hw hty;omega
  refine ⟨hnb,fun hn=>(by cases hn),fun k' hk=>?_⟩;cases hk;refine ⟨x,by omega,hx,ht,fun j w hj hw hty=>?_,hlt⟩;rcases Nat.lt_succ_iff_lt_or_eq.1 hj with h6 | rfl
  ·exact Nat.le_of_lt (hlt j w h6 hw hty)
  ·rw [hx] at hw;cases hw;exact Nat.le_refl _
theorem choose_spec {n:Nd} (hD:D.length=ND.length) (hn:NdOK L ND.length n) (hel:n.edges.length<=1099511627776) :
  EvP Tryz.prog 143 [.pt (mkD PC ND D K sz ot) 0,.agg (dNd n)] (.v (.int .i64 (oz (chooseF D n.edges)))):=by
 have hedge:=hn.edge;obtain ⟨kind,at',lo,hi,most,names,es⟩:=n;simp only at hedge hel;have hdl:=dEds_len es;refine ev_go (P:=Tryz.prog) tt tt_ok 5000 60 [.tmp 4] Tryz.func143 rfl Tryz.ntmps143 rfl (nL rfl) (fun E9 w9 hn9 hm9=>?_);refine loop_i (fun j st=>∃ (e:Nat) (b:Option Nat),st=chsSt PC ND D K sz ot ⟨kind,at',lo,hi,most,names,es⟩ b e/\e<=es.length/\BestI D es e b/\j=es.length - e) es.length (chsSt PC ND D K sz ot ⟨kind,at',lo,hi,most,names,es⟩ none 0) (weak_b 1 rfl wA rfl rfl rfl wB) ⟨0,none,rfl,by omega,⟨fun _ _ h=>by omega,fun _ _ _ h=>by omega,fun _ h=>by cases h⟩,by omega⟩ ?_;rintro j st ⟨e,b,rfl,he,hB,rfl⟩;refine br (fun hL=>?_) (fun hL=>?_)
 ·have hlt:e < es.length:=by simpa [hdl] using hL
  obtain ⟨x,hx⟩:∃ x,es[e]? = some x:=⟨_,gE hlt⟩;have hxo:=hedge x (mG hx)
  have hdx:∃ z,x.bare=false->D[x.to.toNat]? = some z/\x.to=(x.to.toNat:Nat)/\edN D x=z:=by
   cases hb:x.bare with
   | true=>exact ⟨0,fun h=>by cases h⟩
   | false=>
    obtain ⟨k,hk,hkl⟩:=hxo.to1 hb;have hg:D[x.to.toNat]? = some D[x.to.toNat]:=gE (by omega);exact ⟨_,fun _=>⟨hg,by omega,by unfold edN;rw [List.getD_eq_getElem?_getD,hg];rfl⟩⟩
  obtain ⟨z,hz⟩:=hdx;have hthb:x.bare=true->thB D x=true:=fun h=>by unfold thB;rw [h];all_goals rfl
  have hthn:x.bare=false->thB D x=decide (0 < edN D x):=fun h=>by unfold thB;rw [h];all_goals rfl
  have hdp:x.bare=true->dpE D x=0:=fun h=>by unfold dpE;rw [if_pos h]
  have hpos:∀ (j:Nat) y,j < e->es[j]? = some y->thB D y=true->y.bare=false/\0 < edN D y/\dpE D y=edN D y:=fun j y hj hy ht=>by
   have hb:=hB.nb j y hj hy;unfold thB at ht;rw [hb,Bool.false_or] at ht;exact ⟨hb,of_decide_eq_true ht,by unfold dpE;rw [if_neg (by rw [hb];simp)]⟩
  have hret:x.bare=true->chooseF D es=some e:=fun hb=>by
   refine choose_of hx (hthb hb) (fun y _ _=>by rw [hdp hb];omega) fun j y hj hy ht=>?_;obtain ⟨_,h2,h3⟩:=hpos j y hj hy ht;rw [hdp hb,h3];exact h2
  have hgo:∀ b',x.bare=false->((thB D x=false/\b'=b)∨(thB D x=true/\(∃ k y,b=some k/\es[k]? = some y/\edN D y<=edN D x)/\b'=b)∨(thB D x=true/\(b=none∨∃ k y,b=some k/\es[k]? = some y/\edN D x < edN D y)/\b'=some e))->BestI D es (e + 1) b':=fun b' hb h=>hB.step D hx hb h;clear hthb hdp hpos;generalize thB D x=T at hthn hgo;generalize edN D x=ex at hz hthn hgo;obtain ⟨en,eb,ea,et,elb,ew,eck,ecn,ese,eca⟩:=x;simp only at hz hthn hret hgo;refine ⟨_,⟨by omega,dEds_get hx⟩,?_⟩;refine br (fun c=>?_) (fun c=>?_)
  ·rw [hret c];exact (rfl:_=_)
  ·subst c;obtain ⟨hz1,hz2,hz3⟩:=hz rfl;have hthn:=hthn rfl;have hgo:=fun b'=>hgo b' rfl;subst hz3 hthn;obtain ⟨to,rfl⟩:∃ k:Nat,et=k:=⟨_,hz2⟩;rw [Int.toNat_natCast] at hz1
   cases b with
   | none=>
    refine drawG_n mo (by decide +kernel) ?_;refine ⟨_,⟨Int.natCast_nonneg _,dInts_get hz1⟩,?_⟩;refine br (fun c=>?_) (fun c=>?_)
    ·have c:0 < ex:=by simpa [lastG] using c
     exact ⟨chsSt PC ND D K sz ot ⟨kind,at',lo,hi,most,names,es⟩ (some e) (e + 1),(weak_b 1 rfl (wNA hlt) rfl rfl rfl (wNB hlt)),es.length - (e + 1),by omega,e + 1,some e,rfl,by omega,hgo _ (.inr (.inr ⟨decide_eq_true c,.inl rfl,rfl⟩)),rfl⟩
    ·have c:¬ 0 < ex:=by simpa [lastG] using c
     exact ⟨chsSt PC ND D K sz ot ⟨kind,at',lo,hi,most,names,es⟩ none (e + 1),(weak_b 1 rfl (wNA hlt) rfl rfl rfl (wNB hlt)),es.length - (e + 1),by omega,e + 1,none,rfl,by omega,hgo _ (.inl ⟨decide_eq_false c,rfl⟩),rfl⟩
   | some k=>
    obtain ⟨y,hy1,hy,hyt,_⟩:=hB.yes k rfl;have hyb:=hB.nb k y hy1 hy;obtain ⟨ky,hky,hkyl⟩:=(hedge y (mG hy)).to1 hyb;obtain ⟨zy,hzy⟩:∃ z,D[ky]? = some z:=⟨_,gE (by omega)⟩;have hzy2:edN D y=zy:=by unfold edN;rw [hky,Int.toNat_natCast,List.getD_eq_getElem?_getD,hzy];all_goals rfl
    refine drawG_n mo (by decide +kernel) ?_;refine ⟨_,⟨Int.natCast_nonneg _,dInts_get hz1⟩,?_⟩;refine br (fun c=>?_) (fun c=>?_)
    ·have c:0 < ex:=by simpa [lastG] using c
     refine ⟨_,⟨Int.natCast_nonneg _,dInts_get hz1⟩,?_⟩;refine ⟨_,⟨Int.natCast_nonneg _,dEds_get hy⟩,?_⟩;refine ⟨_,⟨by rw [hky];exact Int.natCast_nonneg _,by rw [hky];exact dInts_get hzy⟩,?_⟩;refine br (fun g=>?_) (fun g=>?_)
     ·have g:ex < zy:=by simpa [lastG,pickB] using g
      exact ⟨chsSt PC ND D K sz ot ⟨kind,at',lo,hi,most,names,es⟩ (some e) (e + 1),(weak_b 1 rfl (wNA hlt) rfl rfl rfl (wNB hlt)),es.length - (e + 1),by omega,e + 1,some e,rfl,by omega,hgo _ (.inr (.inr ⟨decide_eq_true c,.inr ⟨k,y,rfl,hy,by omega⟩,rfl⟩)),rfl⟩
     ·have g:¬ ex < zy:=by simpa [lastG,pickB] using g
      exact ⟨chsSt PC ND D K sz ot ⟨kind,at',lo,hi,most,names,es⟩ (some k) (e + 1),(weak_b 1 rfl (wNA hlt) rfl rfl rfl (wNB hlt)),es.length - (e + 1),by omega,e + 1,some k,rfl,by omega,hgo _ (.inr (.inl ⟨decide_eq_true c,⟨k,y,rfl,hy,by omega⟩,rfl⟩)),rfl⟩
    ·have c:¬ 0 < ex:=by simpa [lastG] using c
     exact ⟨chsSt PC ND D K sz ot ⟨kind,at',lo,hi,most,names,es⟩ (some k) (e + 1),(weak_b 1 rfl (wNA hlt) rfl rfl rfl (wNB hlt)),es.length - (e + 1),by omega,e + 1,some k,rfl,by omega,hgo _ (.inl ⟨decide_eq_false c,rfl⟩),rfl⟩
 ·have hge:e=es.length:=by have:=hL;simp [hdl] at this;omega
  subst hge
  cases b with
  | none=>
   rw [choose_none fun x hx=>by
    obtain ⟨j,hj,rfl⟩:=List.getElem_of_mem hx
    exact hB.no rfl j _ hj (gE hj)]
   exact (rfl:_=_)
  | some k=>
   obtain ⟨x,h1,h2,h3,h4,h5⟩:=hB.yes k rfl;have hb:=hB.nb k x h1 h2;have hdx:dpE D x=edN D x:=by unfold dpE;rw [if_neg (by rw [hb];simp)]
   have hdy:∀ (j:Nat) y,j < es.length->es[j]? = some y->dpE D y=edN D y:=fun j y hj hy=>by unfold dpE;rw [if_neg (by rw [hB.nb j y hj hy];simp)]
   rw [choose_of h2 h3 (fun y hy ht=>by
    obtain ⟨j,hj,rfl⟩:=List.getElem_of_mem hy;have hj':=gE hj;rw [hdx,hdy j _ hj hj']
    exact h4 j _ hj hj' ht) fun j y hj hy ht=>by
    rw [hdx,hdy j y (by omega) hy]
    exact h5 j y hj hy ht]
   exact (rfl:_=_)
end
theorem oz_ne {a:Option Nat} {k:Nat}:((k:Nat):Int)≠oz a↔a≠some k:=by
 cases a with
 | none=>simp [oz]
 | some j=>simp [oz];omega
section
variable (PC:List DV) (ND:List Nd) (D:List Nat) (K:List Bool) (sz ot:List Nat) {L:Nat}
abbrev trnSt (n:Nd) (e:Nat):St:=
 ⟨[(0,⟨[],.pt (mkD PC ND D K sz ot) 0⟩),(3,⟨[],.loc 0 0⟩),(5,⟨[],.v (.int .i64 (oz (chooseF D n.edges)))⟩),(12,⟨[],.sl 10 (dEds n.edges) none⟩),(13,⟨[],.v (.int .i64 (dEds n.edges).length)⟩),(14,⟨[],.v (.int .i64 e)⟩)],[dNd n],[]⟩
theorem sturn_spec {n:Nd} (hD:D.length=ND.length) (hn:NdOK L ND.length n) (hel:n.edges.length<=1099511627776) :
  EvP Tryz.prog 145 [.pt (mkD PC ND D K sz ot) 0,.agg (dNd n)] (.v (.int .i64 (oz (turnF D n.edges)))):=by
 have hch:=choose_spec PC ND D K sz ot hD hn hel;have hedge:=hn.edge;obtain ⟨kind,at',lo,hi,most,names,es⟩:=n;simp only at hedge hel hch;have hdl:=dEds_len es;refine ev_go (P:=Tryz.prog) tt tt_ok 5000 39 [.tmp 4] Tryz.func145 rfl Tryz.ntmps145 rfl (nL rfl) (fun E9 w9 hn9 hm9=>?_);refine call_p en143 (hch) ax rfl ?_;refine loop_i (fun j st=>∃ e:Nat,st=trnSt PC ND D K sz ot ⟨kind,at',lo,hi,most,names,es⟩ e/\e<=es.length/\(∀ k,k < e->turnP D es k=false)/\j=es.length - e) es.length (trnSt PC ND D K sz ot ⟨kind,at',lo,hi,most,names,es⟩ 0) (weak_b 1 rfl wA rfl rfl rfl wB) ⟨0,rfl,by omega,fun _ h=>by omega,by omega⟩ ?_;rintro j st ⟨e,rfl,he,hB,rfl⟩;refine br (fun hL=>?_) (fun hL=>?_)
 ·have hlt:e < es.length:=by simpa [hdl] using hL
  obtain ⟨x,hx⟩:∃ x,es[e]? = some x:=⟨_,gE hlt⟩;have hxo:=hedge x (mG hx);have hat:=turnP_at (D:=D) hx;have hyes:turnP D es e=true->turnF D es=some e:=fun h=>firstN_some hlt h hB
  have hno:turnP D es e=false->∀ k,k < e + 1->turnP D es k=false:=fun h k hk=>by
   rcases Nat.lt_succ_iff_lt_or_eq.1 hk with h1 | rfl
   ·exact hB k h1
   ·exact h
  have hdx:∃ z,x.bare=false->D[x.to.toNat]? = some z/\0<=x.to/\thB D x=decide (0 < z):=by
   cases hb:x.bare with
   | true=>exact ⟨0,fun h=>by cases h⟩
   | false=>
    obtain ⟨k,hk,hkl⟩:=hxo.to1 hb;have hg:D[x.to.toNat]? = some D[x.to.toNat]:=gE (by omega);exact ⟨_,fun _=>⟨hg,by omega,by unfold thB edN;rw [hb,List.getD_eq_getElem?_getD,hg];rfl⟩⟩
  obtain ⟨z,hz⟩:=hdx;have hbare:x.bare=true->thB D x=true:=fun h=>by unfold thB;rw [h];all_goals rfl
  generalize turnP D es e=T at hat hyes hno;generalize thB D x=B at hat hz hbare;obtain ⟨en,eb,ea,et,elb,ew,eck,ecn,ese,eca⟩:=x;simp only at hz hbare;refine ⟨_,⟨by omega,dEds_get hx⟩,?_⟩;refine drawG_n mo (by decide +kernel) ?_;refine br (fun c1=>?_) (fun c1=>?_)
  ·have c1:chooseF D es≠some e:=oz_ne.1 (by simpa [lastG] using c1);refine br (fun c2=>?_) (fun c2=>?_)
   ·have c2:eb=false:=by simpa [lastG] using c2
    obtain ⟨hz1,hz2,hz3⟩:=hz c2;refine ⟨_,⟨hz2,dInts_get hz1⟩,?_⟩;refine br (fun g=>?_) (fun g=>?_)
    ·have g:0 < z:=by simpa [lastG,pickB] using g
     rw [hyes (by rw [hat,hz3,decide_eq_true g,Bool.and_true];exact decide_eq_true c1)];exact (rfl:_=_)
    ·have g:¬ 0 < z:=by simpa [lastG,pickB] using g
     exact ⟨trnSt PC ND D K sz ot ⟨kind,at',lo,hi,most,names,es⟩ (e + 1),(weak_b 1 rfl (wNA hlt) rfl rfl rfl (wNB hlt)),es.length - (e + 1),by omega,e + 1,rfl,by omega,hno (by rw [hat,hz3,decide_eq_false g,Bool.and_false]),rfl⟩
   ·have c2:eb=true:=by simpa [lastG] using c2
    rw [hyes (by rw [hat,hbare c2,Bool.and_true];exact decide_eq_true c1)];exact (rfl:_=_)
  ·have c1:¬ chooseF D es≠some e:=fun h=>by
    have:=oz_ne.2 h;simp [lastG] at c1;exact this c1
   exact ⟨trnSt PC ND D K sz ot ⟨kind,at',lo,hi,most,names,es⟩ (e + 1),(weak_b 1 rfl (wNA hlt) rfl rfl rfl (wNB hlt)),es.length - (e + 1),by omega,e + 1,rfl,by omega,hno (by rw [hat,decide_eq_false c1,Bool.false_and]),rfl⟩
 ·have hge:e=es.length:=by have:=hL;simp [hdl] at this;omega
  subst hge;rw [show turnF D es=none from firstN_none hB];exact (rfl:_=_)
theorem spart_spec {e:Ed} (hs:sz.length=ND.length) (he:EdOK L ND.length e) :
  EvP Tryz.prog 183 [.pt (mkD PC ND D K sz ot) 0,.agg (dEd e)] (.v (.int .i64 (prtF sz e:Nat))):=by
 obtain ⟨en,eb,ea,et,elb,ew,eck,ecn,ese,eca⟩:=e;have h1:=he.to1;simp only at h1;refine ev_go (P:=Tryz.prog) tt tt_ok 5000 15 [.tmp 4] Tryz.func183 rfl Tryz.ntmps183 rfl (nL rfl) (fun E9 w9 hn9 hm9=>?_);refine br (fun c=>?_) (fun c=>?_)
 ·subst c;exact (rfl:_=_)
 ·subst c;obtain ⟨k,rfl,hkl⟩:=h1 rfl;have hg:sz[k]? = some sz[k]:=gE (by omega);refine drawG_n mo (by decide +kernel) ?_;refine ⟨_,⟨Int.natCast_nonneg _,dInts_get hg⟩,?_⟩;refine (congrArg (fun z=>DV.v (.int .i64 z)) ?_:_=_);unfold prtF edN;simp [List.getD_eq_getElem?_getD,hg]
end
theorem leastR_lt {K:List Nat}:∀ {es:List Ed} {m:Nat},0 < leastR K es m->m < leastR K es m/\∀ e∈es,0 < edN K e/\edN K e < leastR K es m
 | [],m,_=>⟨Nat.lt_succ_self m,fun e he=>by cases he⟩
 | x :: r,m,h=>by
  rw [leastR] at h ⊢;split at h
  ·omega
  ·rename_i h0;rw [if_neg h0];obtain ⟨h1,h2⟩:=leastR_lt h;refine ⟨by omega,fun e he=>?_⟩;rcases List.mem_cons.1 he with rfl | he
   ·omega
   ·exact h2 e he
theorem leastU_lt {K:List Nat}:∀ {es:List Ed} {b:Nat},0 < leastU K es b->(∃ e∈es,thB K e=true/\dpE K e < leastU K es b)∨(0 < b/\b < leastU K es b)
 | [],b,h=>by
  rw [leastU] at h ⊢;split at h
  ·omega
  ·rename_i h0;rw [if_neg h0];omega
 | x :: r,b,h=>by
  have hup:∀ {v:Nat},(∃ e∈r,thB K e=true/\dpE K e < v)->∃ e∈x :: r,thB K e=true/\dpE K e < v:=fun ⟨e,h1,h2⟩=>⟨e,List.mem_cons_of_mem _ h1,h2⟩;rw [leastU] at h ⊢;split at h
  ·rename_i hb;rw [if_pos hb];exact .inl ⟨x,List.mem_cons_self,by unfold thB;rw [hb];rfl,by unfold dpE;rw [if_pos hb];omega⟩
  ·rename_i hb;rw [if_neg hb];split at h
   ·rename_i h0;rw [if_pos h0];rcases leastU_lt h with h1 | ⟨h1,h2⟩
    ·exact .inl (hup h1)
    ·refine .inl ⟨x,List.mem_cons_self,?_,?_⟩
     ·unfold thB;simp [h1]
     ·unfold dpE;rw [if_neg hb];exact h2
   ·rename_i h0;rw [if_neg h0];rcases leastU_lt h with h1 | h1
    ·exact .inl (hup h1)
    ·exact .inr h1
theorem choose_lt {K:List Nat} {es:List Ed} (h:0 < leastU K es 0):∃ c e,chooseF K es=some c/\es[c]? = some e/\thB K e=true/\dpE K e < leastU K es 0:=by
 rcases leastU_lt h with ⟨x,h1,h2,h3⟩ | h1
 ·obtain ⟨c,hc⟩:=choose_ex (dpE K x) h1 h2 (Nat.le_refl _);obtain ⟨e,he,ht,hm⟩:=choose_some hc;have:=hm x h1 h2;exact ⟨c,e,hc,he,ht,by omega⟩
 ·omega
structure DepOK (ND:List Nd) (D:List Nat):Prop where
 len:D.length=ND.length
 le:∀ i,D.getD i 0<=ND.length
 get:∀ i n,ND[i]? = some n->D.getD i 0=leastF n D
theorem depOK (ND:List Nd):DepOK ND (depN ND ND.length):=by
 refine ⟨depN_len _ _,depN_le ND _,fun i n hn=>?_⟩;have:=depN_get ND ND.length i;rw [depN_end,hn] at this;exact this
theorem DepOK.rcd {ND:List Nd} {D:List Nat} (h:DepOK ND D) {i:Nat} {n:Nd} (hn:ND[i]? = some n) (h0:0 < D.getD i 0) (h7:n.kind=7):∀ e∈n.edges,0 < edN D e/\edN D e < D.getD i 0:=by
 have h1:=h.get i n hn;rw [leastF,if_pos h7] at h1;rw [h1] at h0 ⊢;exact (leastR_lt h0).2
theorem DepOK.uni {ND:List Nd} {D:List Nat} (h:DepOK ND D) {i:Nat} {n:Nd} (hn:ND[i]? = some n) (h0:0 < D.getD i 0) (h8:n.kind=8):∃ c e,chooseF D n.edges=some c/\n.edges[c]? = some e/\(e.bare=false->0 < edN D e/\edN D e < D.getD i 0):=by
 have h1:=h.get i n hn;rw [leastF,if_neg (by omega),if_pos h8] at h1;rw [h1] at h0 ⊢;obtain ⟨c,e,hc,he,ht,hl⟩:=choose_lt h0;refine ⟨c,e,hc,he,fun hb=>?_⟩;unfold thB at ht;rw [hb,Bool.false_or] at ht;unfold dpE at hl;rw [if_neg (by rw [hb];simp)] at hl;exact ⟨of_decide_eq_true ht,hl⟩
def szL (ND:List Nd) (D:List Nat) (d:Nat):Nat->List Nat->List Nat
 | 0,t=>t
 | e + 1,t=>match ND[e]? with
  | none=>szL ND D d e t
  | some n=>if D.getD e 0=d then (szL ND D d e t).set e (sizeF (szL ND D d e t) D n) else szL ND D d e t
def szR (ND:List Nd) (D:List Nat):Nat->List Nat
 | 0=>List.replicate ND.length 0
 | d + 1=>szL ND D (d + 1) ND.length (szR ND D d)
theorem szL_len (ND:List Nd) (D:List Nat) (d:Nat):∀ e t,(szL ND D d e t).length=t.length
 | 0,t=>rfl
 | e + 1,t=>by
  rw [szL];split
  ·exact szL_len ND D d e t
  ·split
   ·rw [List.length_set];exact szL_len ND D d e t
   ·exact szL_len ND D d e t
theorem szR_len (ND:List Nd) (D:List Nat):∀ d,(szR ND D d).length=ND.length
 | 0=>List.length_replicate
 | d + 1=>by rw [szR,szL_len];exact szR_len ND D d
theorem szL_id {ND:List Nd} {D:List Nat} {d:Nat} (h:∀ i,D.getD i 0≠d):∀ e t,szL ND D d e t=t
 | 0,t=>rfl
 | e + 1,t=>by
  rw [szL];split
  ·exact szL_id h e t
  ·rw [if_neg (h e)];exact szL_id h e t
theorem szR_top {ND:List Nd} {D:List Nat} {m:Nat} (h:∀ i,D.getD i 0<=m):∀ k,szR ND D (m + k)=szR ND D m
 | 0=>rfl
 | k + 1=>by
  show szL ND D (m + k + 1) ND.length (szR ND D (m + k))=_;rw [szL_id (fun i=>by have:=h i;omega)];exact szR_top h k
theorem szL_other {ND:List Nd} {D:List Nat} {d:Nat} {i:Nat} (h:D.getD i 0≠d):∀ (e:Nat) (t:List Nat),(szL ND D d e t).getD i 0=t.getD i 0
 | 0,t=>rfl
 | e + 1,t=>by
  rw [szL];split
  ·exact szL_other h e t
  ·split
   ·rename_i he;have hne:i≠e:=fun hie=>h (hie ▸ he);rw [List.getD_eq_getElem?_getD,List.getElem?_set_ne (by omega),<- List.getD_eq_getElem?_getD];exact szL_other h e t
   ·exact szL_other h e t
theorem szL_get {ND:List Nd} {D:List Nat} {d:Nat} {i:Nat} {n:Nd} (hn:ND[i]? = some n) (h:D.getD i 0=d):∀ (e:Nat) (t:List Nat),t.length=ND.length->i < e->(szL ND D d e t).getD i 0=sizeF (szL ND D d i t) D n
 | e + 1,t,hl,hi=>by
  have hil:=(gS hn).1;rw [szL];rcases Nat.lt_succ_iff_lt_or_eq.1 hi with h1 | rfl
  ·have ih:=szL_get hn h e t hl h1;split
   ·exact ih
   ·split
    ·rw [List.getD_eq_getElem?_getD,List.getElem?_set_ne (by omega),<- List.getD_eq_getElem?_getD];exact ih
    ·exact ih
  ·rw [hn];simp only;rw [if_pos h,getD_set (by rw [szL_len];omega),if_pos rfl]
theorem sumX_congr {a b:List Nat} {c:Int}:∀ {es:List Ed} {i n:Nat},(∀ e∈es,prtF a e=prtF b e)->sumX a c es i n=sumX b c es i n
 | [],_,_,_=>rfl
 | e :: r,i,n,h=>by
  rw [sumX,sumX,h e List.mem_cons_self];exact sumX_congr fun x hx=>h x (List.mem_cons_of_mem _ hx)
theorem prtF_congr {a b:List Nat} {e:Ed} (h:e.bare=false->a.getD e.to.toNat 0=b.getD e.to.toNat 0):prtF a e=prtF b e:=by
 unfold prtF edN
 cases hb:e.bare with
 | true=>rfl
 | false=>simp only [Bool.false_eq_true,if_false];exact h hb
theorem sizeF_congr {ND:List Nd} {D a b:List Nat} (h:DepOK ND D) {i:Nat} {n:Nd} (hn:ND[i]? = some n) (h0:0 < D.getD i 0) (hab:∀ j,0 < D.getD j 0->D.getD j 0 < D.getD i 0->a.getD j 0=b.getD j 0):sizeF a D n=sizeF b D n:=by
 unfold sizeF;split
 ·rename_i h7;refine sumX_congr fun e he=>prtF_congr fun _=>?_;obtain ⟨h1,h2⟩:=h.rcd hn h0 h7 e he;exact hab _ h1 h2
 ·split
  ·rename_i h8;obtain ⟨c,e,hc,he,hp⟩:=h.uni hn h0 h8;rw [hc];simp only [he];rw [prtF_congr fun hb=>hab _ (hp hb).1 (hp hb).2]
  ·rfl
theorem szR_low {ND:List Nd} {D:List Nat} {i:Nat}:∀ (k d:Nat),D.getD i 0<=d->(szR ND D (d + k)).getD i 0=(szR ND D d).getD i 0
 | 0,d,_=>rfl
 | k + 1,d,h=>by
  show (szL ND D (d + k + 1) ND.length (szR ND D (d + k))).getD i 0=_;rw [szL_other (by omega)];exact szR_low k d h
def szT (ND:List Nd) (D:List Nat):List Nat:=szR ND D ND.length
theorem szT_len (ND:List Nd) (D:List Nat):(szT ND D).length=ND.length:=szR_len ND D _
theorem szT_get {ND:List Nd} {D:List Nat} (h:DepOK ND D) {i:Nat} {n:Nd} (hn:ND[i]? = some n) (h0:0 < D.getD i 0):(szT ND D).getD i 0=sizeF (szT ND D) D n:=by
 have hle:=h.le i;have hil:=(gS hn).1;obtain ⟨d,hd⟩:∃ d,D.getD i 0=d + 1:=⟨_,(Nat.succ_pred_eq_of_pos h0).symm⟩;obtain ⟨k,hk⟩:∃ k,ND.length=d + 1 + k:=⟨ND.length - (d + 1),by omega⟩
 have h1:(szT ND D).getD i 0=(szR ND D (d + 1)).getD i 0:=by
  unfold szT;rw [hk];exact szR_low k (d + 1) (by omega)
 rw [h1,szR,szL_get hn hd _ _ (szR_len ND D d) hil];refine sizeF_congr h hn h0 fun j hj hjl=>?_;rw [szL_other (by omega)];unfold szT;rw [hk,Nat.add_assoc];exact (szR_low (1 + k) d (by omega)).symm
theorem szT_zero {ND:List Nd} {D:List Nat} {i:Nat} (h0:D.getD i 0=0):(szT ND D).getD i 0=0:=by
 unfold szT;have:=szR_low (ND:=ND) (D:=D) (i:=i) ND.length 0 (by omega);rw [Nat.zero_add] at this;rw [this,szR,List.getD_eq_getElem?_getD,List.getElem?_replicate];split<;>rfl
theorem sizeF_pos (a D:List Nat) (n:Nd):1<=sizeF a D n/\sizeF a D n<=4097:=by
 unfold sizeF;split
 ·exact ⟨sumX_ge (by omega),sumX_le (by omega)⟩
 ·split
  ·split
   ·split
    ·unfold cutM;omega
    ·omega
   ·omega
  ·omega
theorem szT_pos {ND:List Nd} {D:List Nat} (h:DepOK ND D) {i:Nat}:(0 < (szT ND D).getD i 0↔0 < D.getD i 0)/\(szT ND D).getD i 0<=4097:=by
 rcases Nat.eq_zero_or_pos (D.getD i 0) with h0 | h0
 ·rw [szT_zero h0,h0];omega
 ·have hil:i < ND.length:=by
   rcases Nat.lt_or_ge i ND.length with h1 | h1
   ·exact h1
   ·rw [List.getD_eq_getElem?_getD,List.getElem?_eq_none (by rw [h.len];exact h1)] at h0;simp at h0
  have hs:=szT_get h (gE hil) h0;have:=sizeF_pos (szT ND D) D ND[i];rw [hs];omega
def othK (sz D:List Nat) (K:List Bool) (ND:List Nd) (i:Nat):Option (Nat × Option Nat):=match ND[i]? with | some n=>if K.getD i false=true then some (othS sz D K n) else none | none=>none
def otI (kf:Nat->Option (Nat × Option Nat)) (i:Nat) (t:List Nat):List Nat:=match kf i with | some k=>t.set i (othE t k) | none=>t
def otL (kf:Nat->Option (Nat × Option Nat)):Nat->List Nat->List Nat
 | 0,t=>t
 | e + 1,t=>otI kf e (otL kf e t)
def otR (kf:Nat->Option (Nat × Option Nat)) (N:Nat):Nat->List Nat
 | 0=>List.replicate N 0
 | r + 1=>otL kf N (otR kf N r)
def OtOK (kf:Nat->Option (Nat × Option Nat)) (t:List Nat):Prop:=∀ i,t.getD i 0≠0->∃ k,kf i=some k/\t.getD i 0=othE t k
def LeN (a b:List Nat):Prop:=∀ i:Nat,a.getD i 0≠0->b.getD i 0=a.getD i 0
theorem LeN.refl (a:List Nat):LeN a a:=fun _ _=>rfl
theorem LeN.trans {a b c:List Nat} (h1:LeN a b) (h2:LeN b c):LeN a c:=fun i hi=>by rw [h2 i (by rw [h1 i hi];exact hi),h1 i hi]
theorem othE_mono {a b:List Nat} (h:LeN a b) {k:Nat × Option Nat} (h0:othE a k≠0):othE b k=othE a k:=by
 obtain ⟨s,o⟩:=k
 cases o with
 | none=>rfl
 | some j=>
  simp only [othE] at h0 ⊢;split at h0
  ·exact (h0 rfl).elim
  ·rename_i h1;rw [h j h1,if_neg h1]
theorem set_self {l:List Nat} {i:Nat} (v:Nat) (h:l.getD i 0=v):l.set i v=l:=by
 refine getD_ext (List.length_set) fun j=>?_;rcases Nat.lt_or_ge i l.length with h1 | h1
 ·rw [getD_set h1];split
  ·rename_i h2;rw [h2,h]
  ·rfl
 ·rw [List.set_eq_of_length_le h1]
section
variable {kf:Nat->Option (Nat × Option Nat)} {N:Nat}
theorem otI_len (i:Nat) (t:List Nat):(otI kf i t).length=t.length:=by
 unfold otI;split
 ·exact List.length_set
 ·rfl
theorem otL_len:∀ (e:Nat) (t:List Nat),(otL kf e t).length=t.length
 | 0,t=>rfl
 | e + 1,t=>by rw [otL,otI_len];exact otL_len e t
theorem otR_len:∀ r,(otR kf N r).length=N
 | 0=>List.length_replicate
 | r + 1=>by rw [otR,otL_len];exact otR_len r
theorem otI_known {i:Nat} {t:List Nat} (h:OtOK kf t) (h0:t.getD i 0≠0):otI kf i t=t:=by
 obtain ⟨k,hk,hv⟩:=h i h0;unfold otI;rw [hk];exact set_self _ hv
theorem otI_ok {i:Nat} {t:List Nat} (hi:i < t.length) (h:OtOK kf t):OtOK kf (otI kf i t)/\LeN t (otI kf i t):=by
 by_cases h0:t.getD i 0=0
 ·cases hk:kf i with
  | none=>unfold otI;rw [hk];exact ⟨h,LeN.refl t⟩
  | some k=>
   have hu:otI kf i t=t.set i (othE t k):=by unfold otI;rw [hk]
   have hle:LeN t (otI kf i t):=fun j hj=>by
    rw [hu,getD_set hi,if_neg (fun hji=>by subst hji;exact hj h0)]
   refine ⟨fun j hj=>?_,hle⟩;rw [hu,getD_set hi] at hj;by_cases hji:j=i
   ·subst hji;rw [if_pos rfl] at hj;refine ⟨k,hk,?_⟩;rw [othE_mono hle hj,hu,getD_set hi,if_pos rfl]
   ·rw [if_neg hji] at hj;obtain ⟨k',hk',hv⟩:=h j hj;refine ⟨k',hk',?_⟩;rw [hle j hj,othE_mono hle (by rw [<- hv];exact hj),hv]
 ·rw [otI_known h h0];exact ⟨h,LeN.refl t⟩
theorem otL_ok:∀ (e:Nat) {t:List Nat},e<=t.length->OtOK kf t->OtOK kf (otL kf e t)/\LeN t (otL kf e t)
 | 0,t,_,h=>⟨h,LeN.refl t⟩
 | e + 1,t,he,h=>by
  obtain ⟨h1,h2⟩:=otL_ok e (by omega) h;obtain ⟨h3,h4⟩:=otI_ok (i:=e) (by rw [otL_len];omega) h1;exact ⟨h3,h2.trans h4⟩
theorem zero_ok (kf:Nat->Option (Nat × Option Nat)) (N:Nat):OtOK kf (List.replicate N 0):=fun i hi=>by
 rw [List.getD_eq_getElem?_getD,List.getElem?_replicate] at hi;split at hi<;>exact (hi rfl).elim
theorem otR_ok:∀ r,OtOK kf (otR kf N r)
 | 0=>zero_ok kf N
 | r + 1=>(otL_ok N (by rw [otR_len];exact Nat.le_refl N) (otR_ok r)).1
theorem otR_le (r:Nat):LeN (otR kf N r) (otR kf N (r + 1)):=(otL_ok N (by rw [otR_len];exact Nat.le_refl N) (otR_ok r)).2
def cntN (t:List Nat):Nat:=t.countP (fun x=>x != 0)
theorem leN_cnt:∀ {a b:List Nat},a.length=b.length->LeN a b->(a=b∨cntN a < cntN b)/\cntN a<=cntN b
 | [],[],_,_=>⟨.inl rfl,Nat.le_refl _⟩
 | [],y :: b,h,_=>by simp at h
 | x :: a,[],h,_=>by simp at h
 | x :: a,y :: b,h,hle=>by
  obtain ⟨h1,h2⟩:=leN_cnt (a:=a) (b:=b) (by simpa using h) (fun i hi=>hle (i + 1) hi);have h3:=hle 0;simp only [List.getD_cons_zero] at h3;unfold cntN at h1 h2 ⊢;simp only [List.countP_cons];by_cases hx:x=0
  ·subst hx;by_cases hy:y=0
   ·subst hy;refine ⟨?_,by simpa using h2⟩;rcases h1 with rfl | h1
    ·exact .inl rfl
    ·right;simpa using h1
   ·have e1:(y != 0)=true:=by simpa using hy
    simp only [e1,bne_self_eq_false,Bool.false_eq_true,if_false,if_true];exact ⟨.inr (by omega),by omega⟩
  ·have:=h3 hx;subst this;have e1:(y != 0)=true:=by simpa using hx
   simp only [e1,if_true];refine ⟨?_,by omega⟩;rcases h1 with rfl | h1
   ·exact .inl rfl
   ·exact .inr (by omega)
theorem otR_step:∀ r,otR kf N (r + 1)=otR kf N r∨r + 1<=cntN (otR kf N (r + 1))
 | 0=>by
  rcases (leN_cnt (by rw [otR_len,otR_len]) (otR_le (kf:=kf) (N:=N) 0)).1 with h | h
  ·exact .inl h.symm
  ·exact .inr (by omega)
 | r + 1=>by
  rcases otR_step r with h | h
  ·left;show otL kf N (otR kf N (r + 1))=otL kf N (otR kf N r);rw [h]
  ·rcases (leN_cnt (by rw [otR_len,otR_len]) (otR_le (kf:=kf) (N:=N) (r + 1))).1 with h2 | h2
   ·exact .inl h2.symm
   ·exact .inr (by omega)
theorem cntN_le (t:List Nat):cntN t<=t.length:=List.countP_le_length
theorem otR_fix {r:Nat} (h:otR kf N (r + 1)=otR kf N r):∀ k,otR kf N (r + k)=otR kf N r
 | 0=>rfl
 | k + 1=>by
  show otL kf N (otR kf N (r + k))=_;rw [otR_fix h k];exact h
theorem otR_end:otR kf N (N + 1)=otR kf N N:=by
 rcases otR_step (kf:=kf) (N:=N) N with h | h
 ·exact h
 ·have:=cntN_le (otR kf N (N + 1));rw [otR_len] at this;omega
theorem otR_all {r:Nat} (h:otR kf N (r + 1)=otR kf N r):otR kf N r=otR kf N N:=by
 rcases Nat.le_total r N with h1 | h1
 ·have:=otR_fix h (N - r);rw [<- this];congr 1;omega
 ·have:=otR_fix (otR_end (kf:=kf) (N:=N)) (r - N);rw [<- this];congr 1;omega
end
def otT (sz D:List Nat) (K:List Bool) (ND:List Nd):List Nat:=otR (othK sz D K ND) ND.length ND.length
theorem otT_len (sz D:List Nat) (K:List Bool) (ND:List Nd):(otT sz D K ND).length=ND.length:=otR_len _
theorem otT_get {sz D:List Nat} {K:List Bool} {ND:List Nd} {i:Nat} (h:(otT sz D K ND).getD i 0≠0):∃ n,ND[i]? = some n/\K.getD i false=true/\(otT sz D K ND).getD i 0=othE (otT sz D K ND) (othS sz D K n):=by
 obtain ⟨k,hk,hv⟩:=otR_ok (kf:=othK sz D K ND) (N:=ND.length) ND.length i h;unfold othK at hk;split at hk
 ·rename_i n hn;split at hk
  ·rename_i hK;cases hk;exact ⟨n,hn,hK,hv⟩
  ·cases hk
 ·cases hk
def valN (k n:Int):Val:=.mk k n emptyB []
def tagV (F:Nat->Val) (es:List Ed) (c:Nat):Val:=match es[c]? with | some e=>.mk 8 c emptyB (if e.bare=true then [] else [F e.to.toNat]) | none=>valN 8 c
def firstV (ND:List Nd) (D:List Nat):Nat->Nat->Val
 | 0,_=>valN 0 0
 | f + 1,i=>match ND[i]? with
  | none=>valN 0 0
  | some n=>if n.kind=2 then valN 2 n.lo
   else if n.kind=7 then .mk 7 0 emptyB (n.edges.map fun e=>firstV ND D f e.to.toNat)
   else if n.kind=8 then (match chooseF D n.edges with | some c=>tagV (firstV ND D f) n.edges c | none=>valN 8 0)
   else valN n.kind 0
theorem tagV_congr {F G:Nat->Val} {es:List Ed} {c:Nat} (h:∀ e,es[c]? = some e->e.bare=false->F e.to.toNat=G e.to.toNat):tagV F es c=tagV G es c:=by
 unfold tagV
 cases he:es[c]? with
 | none=>rfl
 | some e=>
  simp only
  cases hb:e.bare with
  | true=>rfl
  | false=>rw [h e he hb]
theorem firstV_more {ND:List Nd} {D:List Nat} (h:DepOK ND D):∀ (f i:Nat),0 < D.getD i 0->D.getD i 0<=f->firstV ND D (f + 1) i=firstV ND D f i
 | 0,i,h0,h1=>by omega
 | f + 1,i,h0,h1=>by
  have ih:=firstV_more h f;rw [firstV,firstV]
  cases hn:ND[i]? with
  | none=>rfl
  | some n=>
   simp only;split
   ·rfl
   ·split
    ·rename_i h7;refine congrArg (Val.mk 7 0 emptyB) (List.map_congr_left fun e he=>?_);obtain ⟨h2,h3⟩:=h.rcd hn h0 h7 e he;exact ih _ h2 (by unfold edN at h3;omega)
    ·split
     ·rename_i h8;obtain ⟨c,e,hc,he,hp⟩:=h.uni hn h0 h8;rw [hc];refine tagV_congr fun e' he' hb=>?_;rw [he] at he';cases he';obtain ⟨h2,h3⟩:=hp hb;exact ih _ h2 (by unfold edN at h3;omega)
     ·rfl
def fstV (ND:List Nd) (D:List Nat) (i:Nat):Val:=firstV ND D ND.length i
theorem firstV_top {ND:List Nd} {D:List Nat} (h:DepOK ND D) {i:Nat} (h0:0 < D.getD i 0):∀ k,firstV ND D (D.getD i 0 + k) i=firstV ND D (D.getD i 0) i
 | 0=>rfl
 | k + 1=>by rw [<- firstV_top h h0 k];exact firstV_more h (D.getD i 0 + k) i h0 (by omega)
theorem firstV_any {ND:List Nd} {D:List Nat} (h:DepOK ND D) {f i:Nat} (h0:0 < D.getD i 0) (h1:D.getD i 0<=f):firstV ND D f i=fstV ND D i:=by
 have hle:=h.le i;have h2:=firstV_top h h0 (f - D.getD i 0);have h3:=firstV_top h h0 (ND.length - D.getD i 0);rw [show D.getD i 0 + (f - D.getD i 0)=f by omega] at h2;rw [show D.getD i 0 + (ND.length - D.getD i 0)=ND.length by omega] at h3;unfold fstV;rw [h2,h3]
def secB (F G:Nat->Val) (D:List Nat) (K:List Bool) (n:Nd):Val:=
 if n.kind=2 then valN 2 (n.lo + 1)
 else if n.kind=3 then .mk 3 0 ⟨#[97]⟩ []
 else if n.kind=5∨n.kind=6 then (match n.edges[0]? with | some e=>.mk n.kind 0 emptyB [F e.to.toNat] | none=>valN n.kind 0)
 else if n.kind=7 then (match chgF K n.edges with
  | some c=>(match n.edges[c]? with | some e=>.mk 7 0 emptyB ((n.edges.map fun e=>F e.to.toNat).set c (G e.to.toNat)) | none=>valN 7 0)
  | none=>valN 7 0)
 else if n.kind=8 then (match turnF D n.edges with
  | some c=>tagV F n.edges c
  | none=>(match chooseF D n.edges with | some c=>(match n.edges[c]? with | some e=>.mk 8 c emptyB [G e.to.toNat] | none=>valN 8 c) | none=>valN 8 0))
 else valN n.kind 1
def secondV (ND:List Nd) (D:List Nat) (K:List Bool):Nat->Nat->Val
 | 0,_=>valN 0 0
 | f + 1,i=>match ND[i]? with
  | none=>valN 0 0
  | some n=>secB (fstV ND D) (secondV ND D K f) D K n
def secV (ND:List Nd) (D:List Nat) (K:List Bool) (i:Nat):Val:=secondV ND D K 4096 i
theorem prtF_le {sz:List Nat} (hz:∀ z∈sz,z<=4097) (e:Ed):prtF sz e<=4097:=by
 unfold prtF edN;split
 ·omega
 ·rw [List.getD_eq_getElem?_getD]
  cases h:sz[e.to.toNat]? with
  | none=>exact Nat.zero_le _
  | some z=>exact hz z (mG h)
theorem sumX_take {sz:List Nat} {c:Int} {es:List Ed} {e:Nat} {x:Ed} (h:es[e]? = some x):sumX sz c (es.take (e + 1)) 0 1=if (e:Int)=c then sumX sz c (es.take e) 0 1 else cutM (sumX sz c (es.take e) 0 1 + prtF sz x):=by
 have hl:(es.take e).length=e:=by rw [List.length_take];have:=(gS h).1;omega
 rw [take_snoc h,sumX_snoc,hl,Nat.zero_add]
theorem wrapN {a b:Nat} (ha:a<=1099511627776) (hb:b<=1099511627776):IntKind.i64.wrap ((a:Int) + (b:Int))=((a + b:Nat):Int):=by rw [wrap64 (by omega) (by omega)];omega
section
variable (PC:List DV) (ND:List Nd) (D:List Nat) (K:List Bool) (sz ot:List Nat) {L:Nat}
abbrev fstSt (n:Nd) (s e:Nat):St:=
 ⟨[(0,⟨[],.pt (mkD PC ND D K sz ot) 0⟩),(3,⟨[],.loc 0 0⟩),(5,⟨[],.v (.int .i64 s)⟩),(13,⟨[],.sl 10 (dEds n.edges) none⟩),(14,⟨[],.v (.int .i64 (dEds n.edges).length)⟩),(15,⟨[],.v (.int .i64 e)⟩)],[dNd n],[]⟩
theorem sfirst_spec {n:Nd} (hD:D.length=ND.length) (hs:sz.length=ND.length) (hz:∀ z∈sz,z<=4097) (hn:NdOK L ND.length n) (hel:n.edges.length<=1099511627776) (h8:n.kind=8->∃ c e,chooseF D n.edges=some c/\n.edges[c]? = some e) :
  EvP Tryz.prog 122 [.pt (mkD PC ND D K sz ot) 0,.agg (dNd n)] (.v (.int .i64 (sizeF sz D n:Nat))):=by
 have hch:=choose_spec PC ND D K sz ot hD hn hel;have hedge:=hn.edge;obtain ⟨kind,at',lo,hi,most,names,es⟩:=n;simp only at hedge hel hch h8;have hdl:=dEds_len es;refine ev_go (P:=Tryz.prog) tt tt_ok 5000 41 [.tmp 4] Tryz.func122 rfl Tryz.ntmps122 rfl (nL rfl) (fun E9 w9 hn9 hm9=>?_);refine br (fun c7=>?_) (fun c7=>?_)
 ·have c7:kind=7:=by simpa using c7
  have hF:sizeF sz D ⟨kind,at',lo,hi,most,names,es⟩=sumX sz (-1) es 0 1:=by simp [sizeF,c7]
  rw [hF];refine loop_i (fun j st=>∃ e:Nat,st=fstSt PC ND D K sz ot ⟨kind,at',lo,hi,most,names,es⟩ (sumX sz (-1) (es.take e) 0 1) e/\e<=es.length/\j=es.length - e) es.length (fstSt PC ND D K sz ot ⟨kind,at',lo,hi,most,names,es⟩ 1 0) (weak_b 1 rfl wA rfl rfl rfl wB) ⟨0,rfl,by omega,by omega⟩ ?_;rintro j st ⟨e,rfl,he,rfl⟩;refine br (fun hL=>?_) (fun hL=>?_)
  ·have hlt:e < es.length:=by simpa [hdl] using hL
   obtain ⟨x,hx⟩:∃ x,es[e]? = some x:=⟨_,gE hlt⟩;have hp:=spart_spec PC ND D K sz ot hs (hedge x (mG hx));have hpl:=prtF_le hz x;have hsl:=sumX_le (sz:=sz) (c:=-1) (es:=es.take e) (i:=0) (n:=1) (by omega);have hnx:sumX sz (-1) (es.take (e + 1)) 0 1=cutM (sumX sz (-1) (es.take e) 0 1 + prtF sz x):=by rw [sumX_take hx,if_neg (by omega)]
   have hw:=wrapN (a:=sumX sz (-1) (es.take e) 0 1) (b:=prtF sz x) (by omega) (by omega);refine ⟨_,⟨by omega,dEds_get hx⟩,?_⟩;refine call_p en183 (hp) ax rfl ?_;refine call_p en126 (scut_spec (sumX sz (-1) (es.take e) 0 1 + prtF sz x)) (by repeat' (first | exact rfl | exact trivial | exact Or.inr (Or.inl ⟨_,rfl⟩) | exact Or.inr ⟨_,rfl⟩ | exact Or.inl ⟨rfl,rfl⟩ | exact Or.inl rfl | refine Or.inr ⟨_,_,rfl,Nat.zero_le _,rfl,?_⟩ | refine ⟨_,_,rfl,?_,?_⟩ | refine ⟨_,rfl,?_⟩ | exact congrArg (fun z=>DV.v (.int .i64 z)) hw| refine Or.inr (Or.inr (Or.inr ⟨_,_,rfl,?_⟩)) | exact Or.inl rfl | refine Or.inr ?_)) rfl ?_;exact ⟨fstSt PC ND D K sz ot ⟨kind,at',lo,hi,most,names,es⟩ (sumX sz (-1) (es.take (e + 1)) 0 1) (e + 1),(weak_b 1 rfl (by repeat' (first | exact rfl | exact we_rfl rfl | exact we_int (nxt hlt (by omega)) | exact we_int (congrArg Nat.cast hnx.symm) | refine ⟨_,_,rfl,?_,?_⟩)) rfl rfl rfl (by repeat' (first | exact trivial | exact we_rfl rfl | exact we_int (nxt hlt (by omega)) | exact we_int (congrArg Nat.cast hnx.symm) | refine ⟨⟨_,rfl,?_⟩,?_⟩))),es.length - (e + 1),by omega,e + 1,rfl,by omega,rfl⟩
  ·have hge:e=es.length:=by have:=hL;simp [hdl] at this;omega
   subst hge;rw [List.take_length];exact (rfl:_=_)
 ·have c7:¬ kind=7:=by simpa using c7
  refine br (fun c8=>?_) (fun c8=>?_)
  ·have c8:kind=8:=by simpa using c8
   obtain ⟨c,x,hc,hx⟩:=h8 c8;rw [hc] at hch;have hF:sizeF sz D ⟨kind,at',lo,hi,most,names,es⟩=cutM (1 + prtF sz x):=by simp [sizeF,c8,hc,hx]
   have hp:=spart_spec PC ND D K sz ot hs (hedge x (mG hx));have hpl:=prtF_le hz x;have hw:=wrapN (a:=1) (b:=prtF sz x) (by omega) (by omega);rw [hF];refine drawG_i (fun _=>false) mo (by decide +kernel) ?_;refine callD_p en143 (hch) ax rfl ?_;refine ⟨_,⟨Int.natCast_nonneg _,dEds_get hx⟩,?_⟩;refine callD_p en183 (hp) ax rfl ?_;refine callD_p en126 (scut_spec (1 + prtF sz x)) (by repeat' (first | exact rfl | exact trivial | exact Or.inr (Or.inl ⟨_,rfl⟩) | exact Or.inr ⟨_,rfl⟩ | exact Or.inl ⟨rfl,rfl⟩ | exact Or.inl rfl | refine Or.inr ⟨_,_,rfl,Nat.zero_le _,rfl,?_⟩ | refine ⟨_,_,rfl,?_,?_⟩ | refine ⟨_,rfl,?_⟩ | exact congrArg (fun z=>DV.v (.int .i64 z)) hw| refine Or.inr (Or.inr (Or.inr ⟨_,_,rfl,?_⟩)) | exact Or.inl rfl | refine Or.inr ?_)) rfl ?_;exact (rfl:_=_)
  ·have c8:¬ kind=8:=by simpa using c8
   refine (congrArg (fun z=>DV.v (.int .i64 z)) ?_:_=_);simp [sizeF,c7,c8]
abbrev chgSt (n:Nd) (e:Nat):St:=
 ⟨[(0,⟨[],.pt (mkD PC ND D K sz ot) 0⟩),(3,⟨[],.loc 0 0⟩),(8,⟨[],.sl 10 (dEds n.edges) none⟩),(9,⟨[],.v (.int .i64 (dEds n.edges).length)⟩),(10,⟨[],.v (.int .i64 e)⟩)],[dNd n],[]⟩
theorem schanged_spec {n:Nd} (hK:K.length=ND.length) (hn:NdOK L ND.length n) (h7:n.kind=7) (hel:n.edges.length<=1099511627776) :
  EvP Tryz.prog 144 [.pt (mkD PC ND D K sz ot) 0,.agg (dNd n)] (.v (.int .i64 (oz (chgF K n.edges)))):=by
 have hedge:=hn.edge;have hbare:=hn.bare;obtain ⟨kind,at',lo,hi,most,names,es⟩:=n;simp only at hedge hel h7 hbare;have hdl:=dEds_len es;refine ev_go (P:=Tryz.prog) tt tt_ok 5000 25 [.tmp 4] Tryz.func144 rfl Tryz.ntmps144 rfl (nL rfl) (fun E9 w9 hn9 hm9=>?_);refine loop_i (fun j st=>∃ e:Nat,st=chgSt PC ND D K sz ot ⟨kind,at',lo,hi,most,names,es⟩ e/\e<=es.length/\(∀ k,k < e->chgP K es k=false)/\j=es.length - e) es.length (chgSt PC ND D K sz ot ⟨kind,at',lo,hi,most,names,es⟩ 0) (weak_b 1 rfl wA rfl rfl rfl wB) ⟨0,rfl,by omega,fun _ h=>by omega,by omega⟩ ?_;rintro j st ⟨e,rfl,he,hB,rfl⟩;refine br (fun hL=>?_) (fun hL=>?_)
 ·have hlt:e < es.length:=by simpa [hdl] using hL
  obtain ⟨x,hx⟩:∃ x,es[e]? = some x:=⟨_,gE hlt⟩
  have hxb:x.bare=false:=by
   cases hb:x.bare with
   | false=>rfl
   | true=>have:=hbare x (mG hx) hb;omega
  obtain ⟨k,hk,hkl⟩:=(hedge x (mG hx)).to1 hxb;obtain ⟨z,hz⟩:∃ z,K[k]? = some z:=⟨_,gE (by omega)⟩;have hP:chgP K es e=z:=by unfold chgP;rw [hx];simp only;rw [hk,Int.toNat_natCast,List.getD_eq_getElem?_getD,hz];all_goals rfl
  refine ⟨_,⟨by omega,dEds_get hx⟩,?_⟩;refine drawG_n mo (by decide +kernel) ?_;refine ⟨_,⟨by rw [hk];exact Int.natCast_nonneg _,by rw [hk];exact dBo_get hz⟩,?_⟩;refine br (fun g=>?_) (fun g=>?_)
  ·have g:z=true:=by simpa using g
   rw [show chgF K es=some e from firstN_some hlt (hP.trans g) hB];exact (rfl:_=_)
  ·have g:z=false:=by simpa using g
   exact ⟨chgSt PC ND D K sz ot ⟨kind,at',lo,hi,most,names,es⟩ (e + 1),(weak_b 1 rfl (wNA hlt) rfl rfl rfl (wNB hlt)),es.length - (e + 1),by omega,e + 1,rfl,by omega,fun k hk=>by
    rcases Nat.lt_succ_iff_lt_or_eq.1 hk with h1 | rfl
    ·exact hB k h1
    ·exact hP.trans g,rfl⟩
 ·have hge:e=es.length:=by have:=hL;simp [hdl] at this;omega
  subst hge;rw [show chgF K es=none from firstN_none hB];exact (rfl:_=_)
end
section
variable (a b:Nat) (A B:List (List DV)) (ND:List Nd) (z:Int) (D M S O:List Nat) {L:Nat}
end
structure SecOK (D:List Nat) (K:List Bool) (n:Nd):Prop where
 c7:n.kind=7->∃ c e,chgF K n.edges=some c/\n.edges[c]? = some e/\e.bare=false
 c8:n.kind=8->turnF D n.edges=none->∃ c e,chooseF D n.edges=some c/\n.edges[c]? = some e/\e.bare=false
section
variable (PC:List DV) (ND:List Nd) (D:List Nat) (K:List Bool) (sz ot:List Nat) {L:Nat}
abbrev secSt (n:Nd) (c:Option Nat) (s e:Nat):St:=
 ⟨[(0,⟨[],.pt (mkD PC ND D K sz ot) 0⟩),(3,⟨[],.loc 0 0⟩),(5,⟨[],.v (.int .i64 (oz c))⟩),(6,⟨[],.v (.int .i64 s)⟩),(32,⟨[],.sl 10 (dEds n.edges) none⟩),(33,⟨[],.v (.int .i64 (dEds n.edges).length)⟩),(34,⟨[],.v (.int .i64 e)⟩)],[dNd n],[]⟩
theorem ssecond_spec {n:Nd} (hD:D.length=ND.length) (hK:K.length=ND.length) (hs:sz.length=ND.length) (ho:ot.length=ND.length) (hz:∀ z∈sz,z<=4097) (hoz:∀ z∈ot,z<=4097) (hn:NdOK L ND.length n) (hel:n.edges.length<=1099511627776) (hS:SecOK D K n) :
  EvP Tryz.prog 123 [.pt (mkD PC ND D K sz ot) 0,.agg (dNd n)] (.v (.int .i64 (othE ot (othS sz D K n):Nat))):=by
 have hch:=choose_spec PC ND D K sz ot hD hn hel;have htn:=sturn_spec PC ND D K sz ot hD hn hel;have hcg:=fun h=>schanged_spec PC ND D K sz ot hK hn h hel;have hedge:=hn.edge;have hone:=hn.one;have h7:=hS.c7;have h8:=hS.c8;obtain ⟨kind,at',lo,hi,most,names,es⟩:=n;simp only at hedge hel hch htn hcg h7 h8 hone;have hdl:=dEds_len es
 have hat:∀ {x:Ed},x∈es->x.bare=false->∃ z,(dInts ot)[x.to.toNat]? = some [.v (.int .i64 (z:Nat))]/\0<=x.to/\ot.getD x.to.toNat 0=z/\z<=4097:=fun {x} hx hb=>by
  obtain ⟨k,hk,hkl⟩:=(hedge x hx).to1 hb;have hg:ot[k]? = some ot[k]:=gE (by omega);refine ⟨ot[k],by rw [hk];exact dInts_get hg,by omega,by rw [hk,Int.toNat_natCast,List.getD_eq_getElem?_getD,hg];rfl,hoz _ (mG hg)⟩
 have hone':∀ {x:Ed},x∈es->EvP Tryz.prog 183 [.pt (mkD PC ND D K sz ot) 0,.agg (dEd x)] (.v (.int .i64 (prtF sz x:Nat))):=fun {x} hx=>spart_spec PC ND D K sz ot hs (hedge x hx);have hw1:∀ x,IntKind.i64.wrap (1 + (prtF sz x:Int))=((1 + prtF sz x:Nat):Int):=fun x=>wrapN (a:=1) (by omega) (by have:=prtF_le hz x;omega);have hE:∀ a j z,ot.getD j 0=z->othE ot (a,some j)=if z=0 then 0 else cutM (a + z):=fun a j z h=>by unfold othE;simp only [h]
 refine ev_go (P:=Tryz.prog) tt tt_ok 5000 87 [.tmp 4] Tryz.func123 rfl Tryz.ntmps123 rfl (nL rfl) (fun E9 w9 hn9 hm9=>?_);refine br (fun d5=>?_) (fun c5=>?_)
 ·have c5:kind=5:=by simpa using d5
  refine br (fun _=>?_) (fun h=>absurd h (by simp [c5]));obtain ⟨x,hx,_⟩:=hone (.inl c5);subst hx;rw [show othE ot (othS sz D K ⟨kind,at',lo,hi,most,names,[x]⟩)=cutM (1 + prtF sz x) by unfold othS;rw [if_pos (.inl c5)];rfl];refine ⟨_,⟨by omega,rfl⟩,?_⟩;refine call_p en183 (hone' List.mem_cons_self) ax rfl ?_;refine call_p en126 (scut_spec (1 + prtF sz x)) (by repeat' (first | exact rfl | exact trivial | exact Or.inr (Or.inl ⟨_,rfl⟩) | exact Or.inr ⟨_,rfl⟩ | exact Or.inl ⟨rfl,rfl⟩ | exact Or.inl rfl | refine Or.inr ⟨_,_,rfl,Nat.zero_le _,rfl,?_⟩ | refine ⟨_,_,rfl,?_,?_⟩ | refine ⟨_,rfl,?_⟩ | exact congrArg (fun z=>DV.v (.int .i64 z)) (hw1 x)| refine Or.inr (Or.inr (Or.inr ⟨_,_,rfl,?_⟩)) | exact Or.inl rfl | refine Or.inr ?_)) rfl ?_;exact (rfl:_=_)
 have c5:¬ kind=5:=by simpa using c5
 refine br (fun d6=>?_) (fun c6=>?_)
 ·have c6:kind=6:=by simpa using d6
  obtain ⟨x,hx,_⟩:=hone (.inr c6);subst hx;rw [show othE ot (othS sz D K ⟨kind,at',lo,hi,most,names,[x]⟩)=cutM (1 + prtF sz x) by unfold othS;rw [if_pos (.inr c6)];rfl];refine ⟨_,⟨by omega,rfl⟩,?_⟩;refine call_p en183 (hone' List.mem_cons_self) ax rfl ?_;refine call_p en126 (scut_spec (1 + prtF sz x)) (by repeat' (first | exact rfl | exact trivial | exact Or.inr (Or.inl ⟨_,rfl⟩) | exact Or.inr ⟨_,rfl⟩ | exact Or.inl ⟨rfl,rfl⟩ | exact Or.inl rfl | refine Or.inr ⟨_,_,rfl,Nat.zero_le _,rfl,?_⟩ | refine ⟨_,_,rfl,?_,?_⟩ | refine ⟨_,rfl,?_⟩ | exact congrArg (fun z=>DV.v (.int .i64 z)) (hw1 x)| refine Or.inr (Or.inr (Or.inr ⟨_,_,rfl,?_⟩)) | exact Or.inl rfl | refine Or.inr ?_)) rfl ?_;exact (rfl:_=_)
 have c6:¬ kind=6:=by simpa using c6
 refine br (fun c7=>?_) (fun c7=>?_)
 ·have c7:kind=7:=by simpa using c7
  obtain ⟨c,x,hc,hx,hxb⟩:=h7 c7;have hcg:=hcg c7;rw [hc] at hcg;have hF:othS sz D K ⟨kind,at',lo,hi,most,names,es⟩=(sumX sz c es 0 1,some x.to.toNat):=by simp [othS,c7,hc,hx]
  refine call_p en144 (hcg) ax rfl ?_;refine loop_i (fun j st=>∃ e:Nat,st=secSt PC ND D K sz ot ⟨kind,at',lo,hi,most,names,es⟩ (some c) (sumX sz c (es.take e) 0 1) e/\e<=es.length/\j=es.length - e) es.length (secSt PC ND D K sz ot ⟨kind,at',lo,hi,most,names,es⟩ (some c) 1 0) (weak_b 1 rfl wA rfl rfl rfl wB) ⟨0,rfl,by omega,by omega⟩ ?_;rintro j st ⟨e,rfl,he,rfl⟩;have hsl:=sumX_le (sz:=sz) (c:=c) (es:=es.take e) (i:=0) (n:=1) (by omega);refine br (fun hL=>?_) (fun hL=>?_)
  ·have hlt:e < es.length:=by simpa [hdl] using hL
   obtain ⟨y,hy⟩:∃ x,es[e]? = some x:=⟨_,gE hlt⟩;have hpl:=prtF_le hz y;have hnx:=sumX_take (sz:=sz) (c:=c) hy;have hw:=wrapN (a:=sumX sz c (es.take e) 0 1) (b:=prtF sz y) (by omega) (by omega);refine ⟨_,⟨by omega,dEds_get hy⟩,?_⟩;refine br (fun g=>?_) (fun g=>?_)
   ·have g:¬ (e:Int)=c:=fun h=>by simp [oz,h] at g
    rw [if_neg g] at hnx;refine call_p en183 (hone' (mG hy)) ax rfl ?_;refine call_p en126 (scut_spec (sumX sz c (es.take e) 0 1 + prtF sz y)) (by repeat' (first | exact rfl | exact trivial | exact Or.inr (Or.inl ⟨_,rfl⟩) | exact Or.inr ⟨_,rfl⟩ | exact Or.inl ⟨rfl,rfl⟩ | exact Or.inl rfl | refine Or.inr ⟨_,_,rfl,Nat.zero_le _,rfl,?_⟩ | refine ⟨_,_,rfl,?_,?_⟩ | refine ⟨_,rfl,?_⟩ | exact congrArg (fun z=>DV.v (.int .i64 z)) hw| refine Or.inr (Or.inr (Or.inr ⟨_,_,rfl,?_⟩)) | exact Or.inl rfl | refine Or.inr ?_)) rfl ?_;exact ⟨secSt PC ND D K sz ot ⟨kind,at',lo,hi,most,names,es⟩ (some c) (sumX sz c (es.take (e + 1)) 0 1) (e + 1),(weak_b 1 rfl (by repeat' (first | exact rfl | exact we_rfl rfl | exact we_int (nxt hlt (by omega)) | exact we_int (congrArg Nat.cast hnx.symm) | refine ⟨_,_,rfl,?_,?_⟩)) rfl rfl rfl (by repeat' (first | exact trivial | exact we_rfl rfl | exact we_int (nxt hlt (by omega)) | exact we_int (congrArg Nat.cast hnx.symm) | refine ⟨⟨_,rfl,?_⟩,?_⟩))),es.length - (e + 1),by omega,e + 1,rfl,by omega,rfl⟩
   ·have g:(e:Int)=c:=Decidable.byContradiction fun h=>by simp [oz,h] at g
    rw [if_pos g] at hnx;exact ⟨secSt PC ND D K sz ot ⟨kind,at',lo,hi,most,names,es⟩ (some c) (sumX sz c (es.take (e + 1)) 0 1) (e + 1),(weak_b 1 rfl (by repeat' (first | exact rfl | exact we_rfl rfl | exact we_int (nxt hlt (by omega)) | exact we_int (congrArg Nat.cast hnx.symm) | refine ⟨_,_,rfl,?_,?_⟩)) rfl rfl rfl (by repeat' (first | exact trivial | exact we_rfl rfl | exact we_int (nxt hlt (by omega)) | exact we_int (congrArg Nat.cast hnx.symm) | refine ⟨⟨_,rfl,?_⟩,?_⟩))),es.length - (e + 1),by omega,e + 1,rfl,by omega,rfl⟩
  ·have hge:e=es.length:=by have:=hL;simp [hdl] at this;omega
   subst hge;rw [List.take_length] at hsl ⊢;obtain ⟨z,hz1,hz2,hz3,hz4⟩:=hat (mG hx) hxb;have hzE:=hE (sumX sz c es 0 1) _ _ hz3;rw [hF,hzE];refine drawG_n mo (by decide +kernel) ?_;refine ⟨_,⟨Int.natCast_nonneg _,dEds_get hx⟩,?_⟩;refine ⟨_,⟨hz2,hz1⟩,?_⟩;refine br (fun g=>?_) (fun g=>?_)
   ·have g:0 < z:=by simpa using g
    rw [if_neg (by omega)];refine call_p en126 (scut_spec ((sumX sz c es 0 1) + z)) (by repeat' (first | exact rfl | exact trivial | exact Or.inr (Or.inl ⟨_,rfl⟩) | exact Or.inr ⟨_,rfl⟩ | exact Or.inl ⟨rfl,rfl⟩ | exact Or.inl rfl | refine Or.inr ⟨_,_,rfl,Nat.zero_le _,rfl,?_⟩ | refine ⟨_,_,rfl,?_,?_⟩ | refine ⟨_,rfl,?_⟩ | exact congrArg (fun z=>DV.v (.int .i64 z)) (wrapN (by omega) (by omega))| refine Or.inr (Or.inr (Or.inr ⟨_,_,rfl,?_⟩)) | exact Or.inl rfl | refine Or.inr ?_)) rfl ?_;exact (rfl:_=_)
   ·have g:z=0:=by simpa using g
    rw [if_pos g];exact (rfl:_=_)
 have c7:¬ kind=7:=by simpa using c7
 refine br (fun c8=>?_) (fun c8=>?_)
 ·have c8:kind=8:=by simpa using c8
  refine call_p en145 (htn) ax rfl ?_
  cases ht:turnF D es with
  | some c=>
   obtain ⟨x,hx,_⟩:=turn_some ht;rw [show othS sz D K ⟨kind,at',lo,hi,most,names,es⟩=(cutM (1 + prtF sz x),none) by simp [othS,c8,ht,hx],show othE ot (cutM (1 + prtF sz x),none)=cutM (1 + prtF sz x) from rfl];refine ⟨_,⟨Int.natCast_nonneg _,dEds_get hx⟩,?_⟩;refine call_p en183 (hone' (mG hx)) ax rfl ?_;refine call_p en126 (scut_spec (1 + prtF sz x)) (by repeat' (first | exact rfl | exact trivial | exact Or.inr (Or.inl ⟨_,rfl⟩) | exact Or.inr ⟨_,rfl⟩ | exact Or.inl ⟨rfl,rfl⟩ | exact Or.inl rfl | refine Or.inr ⟨_,_,rfl,Nat.zero_le _,rfl,?_⟩ | refine ⟨_,_,rfl,?_,?_⟩ | refine ⟨_,rfl,?_⟩ | exact congrArg (fun z=>DV.v (.int .i64 z)) (hw1 x)| refine Or.inr (Or.inr (Or.inr ⟨_,_,rfl,?_⟩)) | exact Or.inl rfl | refine Or.inr ?_)) rfl ?_;exact (rfl:_=_)
  | none=>
   obtain ⟨c,x,hc,hx,hxb⟩:=h8 c8 ht;rw [hc] at hch;have hF:othS sz D K ⟨kind,at',lo,hi,most,names,es⟩=(1,some x.to.toNat):=by simp [othS,c8,ht,hc,hx]
   refine call_p en143 (hch) ax rfl ?_;obtain ⟨z,hz1,hz2,hz3,hz4⟩:=hat (mG hx) hxb;have hzE:=hE 1 _ _ hz3;rw [hF,hzE];refine drawG_n mo (by decide +kernel) ?_;refine ⟨_,⟨Int.natCast_nonneg _,dEds_get hx⟩,?_⟩;refine ⟨_,⟨hz2,hz1⟩,?_⟩;refine br (fun g=>?_) (fun g=>?_)
   ·have g:0 < z:=by simpa using g
    rw [if_neg (by omega)];refine call_p en126 (scut_spec (1 + z)) (by repeat' (first | exact rfl | exact trivial | exact Or.inr (Or.inl ⟨_,rfl⟩) | exact Or.inr ⟨_,rfl⟩ | exact Or.inl ⟨rfl,rfl⟩ | exact Or.inl rfl | refine Or.inr ⟨_,_,rfl,Nat.zero_le _,rfl,?_⟩ | refine ⟨_,_,rfl,?_,?_⟩ | refine ⟨_,rfl,?_⟩ | exact congrArg (fun z=>DV.v (.int .i64 z)) (wrapN (a:=1) (by omega) (by omega))| refine Or.inr (Or.inr (Or.inr ⟨_,_,rfl,?_⟩)) | exact Or.inl rfl | refine Or.inr ?_)) rfl ?_;exact (rfl:_=_)
   ·have g:z=0:=by simpa using g
    rw [if_pos g];exact (rfl:_=_)
 ·have c8:¬ kind=8:=by simpa using c8
  refine (congrArg (fun z=>DV.v (.int .i64 z)) ?_:_=_);simp [othS,c5,c6,c7,c8,othE]
end
section
variable (a b:Nat) (A B:List (List DV)) (ND:List Nd) (z:Int) (D M S O:List Nat) (K:List Bool) {L:Nat}
end
end Go.Proofs.YtadhpeooehkklaaGreat
namespace Go.Proofs.YtadhpeooehkklaaGreat
namespace Dv
open Go Go.RowKit
section
variable {P:Program} {ops:Array Oper} {C:World->Prop} {Q:Act->World->Prop} {W:Nat->Bool} {x:Nat}
def runX (P:Program) (ops:Array Oper) (W:Nat->Bool) (C:World->Prop) (Q:Act->World->Prop) (x:Nat):List Nat->Act->World->Prop
 | [],a,w=>runT P ops W C Q [x] a w
 | i :: r,a,w=>
  match ops[i]? with
  | none=>False
  | some o=>
   if ordB ops ops.size x i=true then runT P ops W C Q (x :: i :: r) a w
   else if isE o.op=true then runT P ops W C Q (x :: i :: r) a w/\stepX P ops o a w fun a' w'=>(W i=false->C w->C w')/\runX P ops W C Q x r a' w'
   else ∃ v,Yl P ops C o v a/\(isL o.op=true->C w)/\runX P ops W C Q x r (a.put o.dst v) w
theorem runX_now {xo:Oper} (hsel:∀ (j:Nat) (o:Oper) cs b,ops[j]? = some o->o.op ≠ .select cs b) (hx:ops[x]? = some xo) (hxE:isE xo.op=true) (hWx:∀ (j:Nat) (o:Oper),ops[j]? = some o->isL o.op=true->W x=false) :
  ∀ (rem:List Nat) (a:Act) (w:World),runX P ops W C Q x rem a w->(∀ j∈rem,∀ o,ops[j]? = some o->isE o.op=false->ordB ops ops.size x j=false->swapB ops W x j=true) ->
   stepX P ops xo a w (fun a' w'=>(W x=false->C w->C w')/\runT P ops W C Q rem a' w')
 | [],a,w,hr,_=>by
  simp only [runX,runT,hx,hxE,if_true] at hr;exact hr
 | i :: r,a,w,hr,hsw=>by
  have hnow:runT P ops W C Q (x :: i :: r) a w->stepX P ops xo a w (fun a' w'=>(W x=false->C w->C w')/\runT P ops W C Q (i :: r) a' w'):=fun h=>by
   unfold runT at h;rw [hx] at h;simp only [hxE,if_true] at h;exact h
  cases ho:ops[i]? with
  | none=>simp only [runX,ho] at hr
  | some o=>
   simp only [runX,ho] at hr;by_cases hd:ordB ops ops.size x i=true
   ·rw [if_pos hd] at hr;exact hnow hr
   ·rw [if_neg hd] at hr;by_cases he:isE o.op=true
    ·rw [if_pos he] at hr;exact hnow hr.1
    ·rw [if_neg he] at hr;obtain ⟨v,hy,hc,hr'⟩:=hr;have hd':ordB ops ops.size x i=false:=by simpa using hd
     have he':isE o.op=false:=by simpa using he
     obtain ⟨ap1,ap2,_,_⟩:=swapB_spec (hsw i (by simp) o ho he' hd') hx ho;have hsx:=fun cs b=>hsel x xo cs b hx;have hso:=fun cs b=>hsel i o cs b ho;have ih:=runX_now hsel hx hxE hWx r (a.put o.dst v) w hr' (fun j hj=>hsw j (List.mem_cons_of_mem _ hj));refine stepX_mono ?_ (stepX_form ((stepX_put ap2 hsx).1 ih));rintro a' w' ⟨⟨hcw,hr2⟩,u,rfl⟩;refine ⟨hcw,?_⟩;simp only [runT,ho];rw [if_neg he];exact ⟨v,(Yl.same (u:=u) ap1 hso).2 hy,fun hL=>hcw (hWx i o ho hL) (hc hL),hr2⟩
theorem runX_step {π:Nat->Nat} (hsel:∀ (j:Nat) (o:Oper) cs b,ops[j]? = some o->o.op ≠ .select cs b) (hWL:∀ j i x y,π j < π i->ops[i]? = some x->ops[j]? = some y->isL x.op=true->W j=false)
  {i:Nat} {o:Oper} (hi:ops[i]? = some o) (hxL:∀ z,ops[x]? = some z->isL z.op=false) (hxi:x≠i) (hnd:ordB ops ops.size x i=false) (hsx:isE o.op=false->swapB ops W x i=true) :
  ∀ (rem:List Nat) (a:Act) (w:World),(HasL ops (x :: rem)->C w)->runX P ops W C Q x rem a w->i∈rem->(∀ j∈rem,j≠i->π j < π i->swapB ops W j i=true)->(x :: rem).Pairwise (fun a b=>π a < π b) ->
   (isE o.op=true->∀ j∈rem,π j < π i->ordB ops ops.size x j=false) ->
   stepX P ops o a w (fun a' w'=>(W i=false->C w->C w')/\runX P ops W C Q x (rem.erase i) a' w')
 | [],_,_,_,_,hm,_,_,_=>by cases hm
 | h :: rem,a,w,hC,hr,hm,hsw,hp,hdp=>by
  by_cases hih:h=i
  ·subst hih;rw [List.erase_cons_head];simp only [runX,hi] at hr;rw [if_neg (by simp [hnd])] at hr;split at hr
   ·exact hr.2
   ·obtain ⟨v,hy,hc,hr'⟩:=hr;exact stepX_of_Yl hy hc ⟨fun _ h=>h,hr'⟩
  ·have hm':i∈rem:=by
    rcases List.mem_cons.1 hm with e | e
    ·exact (hih e.symm).elim
    ·exact e
   have hp1:=List.pairwise_cons.1 hp;have hp2:=List.pairwise_cons.1 hp1.2;have hlt:π h < π i:=hp2.1 i hm';have hpr:(x :: rem).Pairwise (fun a b=>π a < π b):=List.pairwise_cons.2 ⟨fun y hy=>hp1.1 y (List.mem_cons_of_mem _ hy),hp2.2⟩
   have hswx:isE o.op=false->∀ j∈x :: h :: rem,j≠i->π j < π i->swapB ops W j i=true:=fun he j hj hne hl=>by
    rcases List.mem_cons.1 hj with rfl | hj
    ·exact hsx he
    ·exact hsw j hj hne hl
   have himx:i∈x :: h :: rem:=List.mem_cons_of_mem _ hm
   have herx:(x :: h :: rem).erase i=x :: h :: rem.erase i:=by
    rw [List.erase_cons_tail (by simpa using hxi),List.erase_cons_tail (by simpa using hih)]
   rw [List.erase_cons_tail (by simpa using hih)];have hsw':∀ j∈rem,j≠i->π j < π i->swapB ops W j i=true:=fun j hj=>hsw j (List.mem_cons_of_mem _ hj);have hdp':isE o.op=true->∀ j∈rem,π j < π i->ordB ops ops.size x j=false:=fun he j hj=>hdp he j (List.mem_cons_of_mem _ hj)
   have hCt:HasL ops (x :: rem)->C w:=fun hl=>hC (by
    obtain ⟨l,z,hlm,hz,hL⟩:=hl;rcases List.mem_cons.1 hlm with rfl | hlm
    ·exact ⟨l,z,by simp,hz,hL⟩
    ·exact ⟨l,z,by simp [hlm],hz,hL⟩)
   cases hh:ops[h]? with
   | none=>simp only [runX,hh] at hr
   | some y=>
    obtain ⟨ap1,ap2,hEE,hLW⟩:=swapB_spec (hsw h (by simp) hih hlt) hh hi;have hsy:=fun cs b=>hsel h y cs b hh;have hso:=fun cs b=>hsel i o cs b hi;simp only [runX,hh] at hr;by_cases hd:ordB ops ops.size x h=true
    ·rw [if_pos hd] at hr
     have he:isE o.op=false:=by
      cases he:isE o.op
      ·rfl
      ·have:=hdp he h (by simp) hlt;rw [hd] at this;cases this
     have hst:=run_step hsel hWL hi (x :: h :: rem) a w hC hr himx (hswx he) hp;refine stepX_mono ?_ hst;rintro a' w' ⟨hcw,hr2⟩;refine ⟨hcw,?_⟩;simp only [runX,hh];rw [if_pos hd,<- herx];exact hr2
    ·rw [if_neg hd] at hr;by_cases hE:isE y.op=true
     ·rw [if_pos hE] at hr;obtain ⟨hl,hr⟩:=hr
      have he:isE o.op=false:=by
       cases he:isE o.op
       ·rfl
       ·exact (hEE ⟨hE,he⟩).elim
      obtain ⟨v,hyv⟩:=run_yields (π:=π) hsel hi he (x :: h :: rem) a w hl himx (hswx he) hp;have hci:isL o.op=true->C w:=fun hL=>hC ⟨i,o,himx,hi,hL⟩;have hst:=run_step hsel hWL hi (x :: h :: rem) a w hC hl himx (hswx he) hp;have hk1:=Yl_of_stepX hyv hci hst;refine stepX_of_Yl hyv hci ⟨fun _ h=>h,?_⟩;simp only [runX,hh];rw [if_neg hd,if_pos hE];refine ⟨by rw [<- herx];exact hk1.2,?_⟩;refine (stepX_put ap2 hsy).2 ?_;refine stepX_mono ?_ (stepX_form hr);rintro a' w' ⟨⟨hcw,hr'⟩,u,rfl⟩;refine ⟨hcw,?_⟩
      have hC':HasL ops (x :: rem)->C w':=by
       intro hl';have hl2:=hl';obtain ⟨l,z,hlm,hz,hL⟩:=hl';refine hcw ?_ (hCt hl2);rcases List.mem_cons.1 hlm with e | hlm
       ·rw [e] at hz;rw [hxL z hz] at hL;cases hL
       ·exact hWL h l z y (hp2.1 l hlm) hz hh hL
      have ih:=runX_step hsel hWL hi hxL hxi hnd hsx rem _ w' hC' hr' hm' hsw' hpr hdp';have hy':=(Yl.same (u:=u) ap1 hso).2 hyv;exact (Yl_of_stepX hy' (fun hL=>hC' ⟨i,o,List.mem_cons_of_mem _ hm',hi,hL⟩) ih).2
     ·rw [if_neg hE] at hr;obtain ⟨v,hyv,hc,hr'⟩:=hr;have ih:=runX_step hsel hWL hi hxL hxi hnd hsx rem (a.put y.dst v) w hCt hr' hm' hsw' hpr hdp';refine stepX_mono ?_ (stepX_form ((stepX_put ap1 hso).1 ih));rintro a' w' ⟨⟨hcw,hr2⟩,u,rfl⟩;refine ⟨hcw,?_⟩;simp only [runX,hh];rw [if_neg hd,if_neg hE];refine ⟨v,(Yl.same (u:=u) ap2 hsy).2 hyv,fun hL=>?_,hr2⟩
      have hWi:W i=false:=by
       cases hw:W i
       ·rfl
       ·exact (hLW ⟨hL,hw⟩).elim
      exact hcw hWi (hc hL)
def exX (ops:Array Oper) (x:Nat) (j i:Nat):Bool:=Nat.beq j x && (match ops[i]? with | some o=>isE o.op | none=>false)
def chkD (ops:Array Oper) (x:Nat) (π:Nat->Nat):Bool:=
 (List.range ops.size).all fun i=>
  match ops[i]? with
  | none=>true
  | some o=>!isE o.op || Nat.beq i x || ordB ops ops.size x i || (List.range ops.size).all fun j=>Nat.beq j x || !Nat.blt (π j) (π i) || !ordB ops ops.size x j
theorem any_of_x {π:Nat->Nat} {xo:Oper} {Q':Exit->Act->World->Prop} (hx:ops[x]? = some xo) (hxE:isE xo.op=true) (hxL:isL xo.op=false) (hx0:∀ j,j≠x->π x < π j) (hcO:chkO ops W π=true) (hcS:chkS ops W π (exX ops x)=true) (hD:chkD ops x π=true)
  (hQ:∀ a w,Q a w->Q' .normal a w):∀ (fuel:Nat) (listed:Array Bool) (rem:List Nat) (a:Act) (w:World),
  listed.size=ops.size->Dn ops listed->listed.getD x true=false->(∀ i,i∈rem↔i≠x/\i < ops.size/\listed.getD i true=false)->(x :: rem).Pairwise (fun a b=>π a < π b)->rem.length + 1<=fuel->(HasL ops (x :: rem)->C w) ->
   runX P ops W C Q x rem a w->wpAny P .any ops Q' fuel listed a w:=by
 have hsel:=chkO_sel hcO;have hWL:=chkO_wl hcO;have hback:=chkO_back hcO;have hcS':=hcS;have hxs:=(Array.getElem?_eq_some_iff.1 hx).1
 have hWx:∀ (j:Nat) (o:Oper),ops[j]? = some o->isL o.op=true->W x=false:=fun j o hj hL=>by
  refine hWL x j o xo (hx0 j ?_) hj hx hL;rintro rfl;rw [hx] at hj;simp only [oI] at hj;rw [<- hj,hxL] at hL;cases hL
 simp only [chkS,List.all_eq_true,List.mem_range,Bool.or_eq_true,Bool.not_eq_true'] at hcS
 have hsx:∀ (i:Nat) (o:Oper),ops[i]? = some o->i≠x->isE o.op=false->ordB ops ops.size x i=false->swapB ops W x i=true:=fun i o ho hne he hd=>by
  rcases hcS i (Array.getElem?_eq_some_iff.1 ho).1 x hxs with ((h1 | h1) | h1) | h1
  ·have:¬ Nat.blt (π x) (π i)=true:=by simp [h1]
   have:=hx0 i hne;simp at *;omega
  ·simp [exX,ho,he] at h1
  ·rw [hd] at h1;cases h1
  ·exact h1
 intro fuel
 induction fuel with
 | zero=>intro listed rem a w _ _ _ _ _ hlen;omega
 | succ fuel ih=>
  intro listed rem a w hsz hdn hxu hrem hp hlen hC hr;have hp1:=List.pairwise_cons.1 hp;have hnd:rem.Nodup:=nodup_lt hp1.2;refine ⟨fun h0=>?_,fun i hi=>?_⟩
  ·have:x∈Region.ready .any ops listed:=by
    refine mem_ready.2 ⟨hxu,_,hx,fun e he hb=>?_⟩;obtain ⟨hlt,hlt2⟩:=hback x _ hx e he hb;cases hg:listed.getD e.on false
    ·have hne:e.on≠x:=fun h=>by rw [h] at hlt;omega
     have:=hx0 e.on hne;omega
    ·rfl
   rw [h0] at this;cases this
  ·obtain ⟨hun,o,ho,hall⟩:=mem_ready.1 hi;have hi':=(Array.getElem?_eq_some_iff.1 ho).1
   have hDn':Dn ops (listed.setIfInBounds i true):=by
    intro k z hz hk e he hb;by_cases hki:k=i
    ·subst hki;rw [ho] at hz;simp only [oI] at hz;subst hz;exact getD_set_true (hall e he hb)
    ·rw [getD_set_ne true (Ne.symm hki)] at hk;exact getD_set_true (hdn k z hz hk e he hb)
   refine step_wpOp ho ?_;by_cases hix:i=x
   ·subst hix;rw [hx] at ho;simp only [oI] at ho;subst ho;have hst:=runX_now hsel hx hxE hWx rem a w hr (fun j hj o ho he hd=>hsx j o ho ((hrem j).1 hj).1 he hd);refine stepX_mono ?_ hst;rintro a' w' ⟨hcw,hr'⟩;refine any_of_run (C:=C) (exX ops i) hcO hcS' hQ fuel _ rem a' w' (by simp [hsz]) hDn' ?_ hp1.2 (by omega) ?_ ?_ hr'
    ·intro k;rw [hrem k];by_cases hki:k=i
     ·subst hki;simp [hsz,hi']
     ·rw [getD_set_ne true (Ne.symm hki)];simp [hki]
    ·intro j hj k _;have:=((hrem j).1 hj).1;simp [exX,this]
    ·rintro ⟨l,z,hl,hz,hL⟩;exact hcw (hWx l z hz hL) (hC ⟨l,z,List.mem_cons_of_mem _ hl,hz,hL⟩)
   ·have him:i∈rem:=(hrem i).2 ⟨hix,hi',hun⟩
    have hnl:∀ j,j < ops.size->listed.getD j true=false->ordB ops ops.size j i=false:=by
     intro j hj hu;cases h1:ordB ops ops.size j i
     ·rfl
     ·have h2:=ordB_listed hdn _ _ _ _ ho hall h1;have:j < listed.size:=by rw [hsz];exact hj
      simp [this] at h2 hu;rw [h2] at hu;cases hu
    have hndx:=hnl x hxs hxu
    have hsw:∀ j∈rem,j≠i->π j < π i->swapB ops W j i=true:=by
     intro j hj _ hlt;have hj':=(hrem j).1 hj;rcases hcS i hi' j hj'.2.1 with ((h1 | h1) | h1) | h1
     ·have:¬ Nat.blt (π j) (π i)=true:=by simp [h1]
      simp at this;omega
     ·simp [exX,hj'.1] at h1
     ·rw [hnl j hj'.2.1 hj'.2.2] at h1;cases h1
     ·exact h1
    have hdp:isE o.op=true->∀ j∈rem,π j < π i->ordB ops ops.size x j=false:=by
     intro he j hj hlt;simp only [chkD,List.all_eq_true,List.mem_range] at hD;have h1:=hD i hi';rw [ho] at h1;simp only [he,hndx,Bool.not_true,Bool.false_or,Bool.or_false,Bool.or_eq_true,List.all_eq_true,List.mem_range,Bool.not_eq_true',Nat.beq_eq] at h1;rcases h1 with h1 | h1
     ·exact (hix h1).elim
     ·have hj':=(hrem j).1 hj;rcases h1 j hj'.2.1 with (h2 | h2) | h2
      ·exact (hj'.1 h2).elim
      ·have:¬ Nat.blt (π j) (π i)=true:=by simp [h2]
       simp at this;omega
      ·exact h2
    have hst:=runX_step (π:=π) hsel hWL ho (fun z hz=>by rw [hx] at hz;simp only [oI] at hz;rw [<- hz];exact hxL) (Ne.symm hix) hndx (fun he=>hsx i o ho hix he hndx) rem a w hC hr him hsw hp hdp;refine stepX_mono ?_ hst;rintro a' w' ⟨hcw,hr'⟩;have hxi:=getD_set_ne (listed:=listed) true hix;refine ih (listed.setIfInBounds i true) (rem.erase i) a' w' (by simp [hsz]) hDn' (by rw [hxi];exact hxu) ?_ (List.pairwise_cons.2 ⟨fun y hy=>hp1.1 y (List.mem_of_mem_erase hy),hp1.2.sublist List.erase_sublist⟩) (by rw [List.length_erase_of_mem him];have:=List.length_pos_of_mem him;omega) ?_ hr'
    ·intro k;rw [List.Nodup.mem_erase_iff hnd];by_cases hki:k=i
     ·subst hki;simp [hsz,hi']
     ·rw [getD_set_ne true (Ne.symm hki)];simp only [ne_eq,hki,not_false_eq_true,true_and];exact hrem k
    ·rintro ⟨l,z,hl,hz,hL⟩
     have hlx:l≠x:=by
      rintro rfl;rw [hx] at hz;simp only [oI] at hz;rw [<- hz,hxL] at hL;cases hL
     have hl:l∈rem.erase i:=by
      rcases List.mem_cons.1 hl with h | h
      ·exact (hlx h).elim
      ·exact h
     have hl':=List.mem_of_mem_erase hl;have hne:l≠i:=((List.Nodup.mem_erase_iff hnd).1 hl).1;have hCw:=hC ⟨l,z,List.mem_cons_of_mem _ hl',hz,hL⟩;refine hcw ?_ hCw;rcases pw_rel hp1.2 him hl' hne.symm with h1 | h1
     ·exact hWL i l z o h1 hz ho hL
     ·have:=hsw l hl' hne h1;obtain ⟨_,_,_,h4⟩:=swapB_spec this hz ho;cases hw:W i
      ·rfl
      ·exact (h4 ⟨hL,hw⟩).elim
theorem runX_tail {π:Nat->Nat} (hsel:∀ (j:Nat) (o:Oper) cs b,ops[j]? = some o->o.op ≠ .select cs b) (hWL:∀ j i x y,π j < π i->ops[i]? = some x->ops[j]? = some y->isL x.op=true->W j=false)
  (hsx:∀ (i:Nat) (o:Oper),ops[i]? = some o->i≠x->isE o.op=false->ordB ops ops.size x i=false->swapB ops W x i=true) :
  ∀ (l:List Nat) (a:Act) (w:World),(HasL ops (x :: l)->C w)->runT P ops W C Q (x :: l) a w->(∀ i∈l,i≠x/\∃ o,ops[i]? = some o/\(ordB ops ops.size x i=true∨isE o.op=false))->(x :: l).Pairwise (fun a b=>π a < π b)->runX P ops W C Q x l a w
 | [],a,w,_,h,_,_=>by simpa only [runX] using h
 | i :: r,a,w,hC,h,hl,hp=>by
  obtain ⟨hne,o,ho,hoe⟩:=hl i (by simp);simp only [runX,ho];by_cases hd:ordB ops ops.size x i=true
  ·rw [if_pos hd];exact h
  ·rw [if_neg hd]
   have he:isE o.op=false:=by
    rcases hoe with h | h
    ·exact (hd h).elim
    ·exact h
   rw [if_neg (by simp [he])];have hd':ordB ops ops.size x i=false:=by simpa using hd
   have hp1:=List.pairwise_cons.1 hp;have hp2:=List.pairwise_cons.1 hp1.2
   have hsw:∀ j∈x :: i :: r,j≠i->π j < π i->swapB ops W j i=true:=fun j hj hji hlt=>by
    rcases List.mem_cons.1 hj with rfl | hj
    ·exact hsx i o ho hne he hd'
    ·rcases List.mem_cons.1 hj with rfl | hj
     ·exact (hji rfl).elim
     ·have:=hp2.1 j hj;omega
   have hci:isL o.op=true->C w:=fun hL=>hC ⟨i,o,by simp,ho,hL⟩;obtain ⟨v,hy⟩:=run_yields (π:=π) hsel ho he _ a w h (by simp) hsw hp;have hst:=run_step hsel hWL ho _ a w hC h (by simp) hsw hp;have hk:=(Yl_of_stepX hy hci hst).2;rw [List.erase_cons_tail (by simpa using Ne.symm hne),List.erase_cons_head] at hk;refine ⟨v,hy,hci,runX_tail hsel hWL hsx r _ w (fun hl=>?_) hk (fun j hj=>hl j (List.mem_cons_of_mem _ hj)) (List.pairwise_cons.2 ⟨fun y hy=>hp1.1 y (List.mem_cons_of_mem _ hy),hp2.2⟩)⟩;obtain ⟨l,z,hlm,hz,hL⟩:=hl;refine hC ⟨l,z,?_,hz,hL⟩;rcases List.mem_cons.1 hlm with h | h
   ·simp [h]
   ·simp [h]
end
theorem selL_all {ops:Array Oper}:∀ {l:List Nat},(∀ i∈l,i < ops.size)->(selL ops.toList l).map (·.1)=l
 | [],_=>rfl
 | i :: r,h=>by
  have hi:ops.toList[i]? = some (ops[i]'(h i (by simp))):=by
   rw [gE (by simpa using h i (by simp))];simp
  unfold selL;rw [hi];simp only [List.map_cons];rw [selL_all fun j hj=>h j (List.mem_cons_of_mem _ hj)]
def goX (X:Ctx) (D:Dr) (x:Nat) (tail:List Nat):List Nat->Bool->List (Nat × Sl)->St->Prop
 | [],c,s0,st=>
  match c with
  | true=>goD X D 3000 true (selL D.ops.toList (x :: tail)) s0 st
  | false=>False
 | i :: r,c,s0,st=>
  match D.ops.toList[i]? with
  | none=>False
  | some o=>
   match isE o.op with
   | true=>goD X D 3000 c (selL D.ops.toList (x :: i :: (r ++ tail))) s0 st/\goD X ⟨D.ops,D.W,D.k,D.st0,some (goX X D x tail r)⟩ 3000 c [(i,o)] s0 st
   | false=>goD X ⟨D.ops,D.W,D.k,D.st0,some (goX X D x tail r)⟩ 3000 c [(i,o)] s0 st
def chkX (ops:Array Oper) (W:Nat->Bool) (x:Nat) (pre tail:List Nat):Bool:=
 chkL ops (x :: (pre ++ tail)) && chkO ops W (plc (x :: (pre ++ tail))) && chkS ops W (plc (x :: (pre ++ tail))) (exX ops x) && chkD ops x (plc (x :: (pre ++ tail))) &&
  (match ops[x]? with | some o=>isE o.op && !isL o.op | none=>false) && pre.all (fun i=>!ordB ops ops.size x i) && tail.all (fun i=>match ops[i]? with | some o=>ordB ops ops.size x i || !isE o.op | none=>false)
section
variable {X:Ctx} {D:Dw} {x:Nat} {tail:List Nat} {π:Nat->Nat}
theorem goX_sound (hD:EnvM D.E0 D.d.st0.bx D.wr) (hsel:∀ (j:Nat) (o:Oper) cs b,D.d.ops[j]? = some o->o.op ≠ .select cs b) (hWL:∀ j i x y,π j < π i->D.d.ops[i]? = some x->D.d.ops[j]? = some y->isL x.op=true->D.d.W j=false)
  (hsx:∀ (i:Nat) (o:Oper),D.d.ops[i]? = some o->i≠x->isE o.op=false->ordB D.d.ops D.d.ops.size x i=false->swapB D.d.ops D.d.W x i=true)
  (htl:∀ i∈tail,i≠x/\∃ o,D.d.ops[i]? = some o/\(ordB D.d.ops D.d.ops.size x i=true∨isE o.op=false)) (hxs:x < D.d.ops.size):∀ (pre:List Nat),(∀ i∈pre,i < D.d.ops.size/\ordB D.d.ops D.d.ops.size x i=false)->(x :: (pre ++ tail)).Pairwise (fun a b=>π a < π b) ->
  ∀ c s0 st,goX X D.d x tail pre c s0 st->∀ E a w,RelD X D c E s0 st a w->runX X.P D.d.ops D.d.W D.C (D.Q X) x (pre ++ tail) a w
 | [],_,hp,c,s0,st,hg,E,a,w,h=>by
  have htl2:∀ i∈x :: tail,i < D.d.ops.size:=fun i hi=>by
   rcases List.mem_cons.1 hi with rfl | hi
   ·exact hxs
   ·obtain ⟨_,o,ho,_⟩:=htl i hi;exact (Array.getElem?_eq_some_iff.1 ho).1
  simp only [goX] at hg;split at hg
  ·have h1:=goD_sound hD 3000 true _ _ _ hg (fun p hp=>by simpa using selL_mem hp) E a w h;rw [selL_all htl2] at h1;exact runX_tail hsel hWL hsx tail a w (fun _=>h.cc rfl) h1 htl hp
  ·exact hg.elim
 | i :: r,hpre,hp,c,s0,st,hg,E,a,w,h=>by
  obtain ⟨his,hnd⟩:=hpre i (by simp);have ho:D.d.ops[i]? = some D.d.ops[i]:=Array.getElem?_eq_getElem his;have hol:D.d.ops.toList[i]? = some D.d.ops[i]:=by simpa using ho
  have hp1:=List.pairwise_cons.1 hp;have hp2:=List.pairwise_cons.1 hp1.2
  have hall:∀ j∈x :: i :: (r ++ tail),j < D.d.ops.size:=fun j hj=>by
   rcases List.mem_cons.1 hj with rfl | hj
   ·exact hxs
   ·rcases List.mem_cons.1 hj with rfl | hj
    ·exact his
    ·rcases List.mem_append.1 hj with hj | hj
     ·exact (hpre j (by simp [hj])).1
     ·obtain ⟨_,o,ho,_⟩:=htl j hj;exact (Array.getElem?_eq_some_iff.1 ho).1
  have ih:=goX_sound hD hsel hWL hsx htl hxs r (fun j hj=>hpre j (by simp [hj])) (List.pairwise_cons.2 ⟨fun y hy=>hp1.1 y (List.mem_cons_of_mem _ hy),hp2.2⟩);generalize D.d.ops[i]=o at ho hol
  have hone:∀ c s0 st,goD X ⟨D.d.ops,D.d.W,D.d.k,D.d.st0,some (goX X D.d x tail r)⟩ 3000 c [(i,o)] s0 st->RelD X D c E s0 st a w->runT X.P D.d.ops D.d.W D.C (fun a w=>runX X.P D.d.ops D.d.W D.C (D.Q X) x (r ++ tail) a w) [i] a w:=fun c s0 st hg h=>by
   have h1:=goD_sound (D:=⟨⟨D.d.ops,D.d.W,D.d.k,D.d.st0,some (goX X D.d x tail r)⟩,D.E0,D.wr⟩) hD 3000 c [(i,o)] s0 st hg (fun p hp=>by
    rw [List.mem_singleton] at hp;rw [hp]
    exact ho) E a w ⟨h.rel,h.x,h.β,h.t0,h.cc⟩
   refine runT_mono ?_ h1;rintro a w ⟨c,E,s0,st,h2,h3⟩;exact ih c s0 st h3 E a w ⟨h2.rel,h2.x,h2.β,h2.t0,h2.cc⟩
  simp only [goX,hol] at hg;simp only [List.cons_append,runX,ho];rw [if_neg (by simp [hnd])];split at hg
  ·rename_i hE;obtain ⟨h1,h2⟩:=hg;rw [if_pos hE];have h3:=goD_sound hD 3000 c _ _ _ h1 (fun p hp=>by simpa using selL_mem hp) E a w h;rw [selL_all hall] at h3;refine ⟨h3,?_⟩;have h4:=hone c s0 st h2 h;simp only [runT,ho,hE,if_true] at h4;exact h4
  ·rename_i hE;rw [if_neg (by simp [hE])];have h4:=hone c s0 st hg h;simp only [runT,ho,hE,Bool.false_eq_true,if_false] at h4;exact h4
theorem plc_zero (x:Nat) (l:List Nat):plc (x :: l) x=0:=by simp [plc]
theorem plc_pos {x j:Nat} (l:List Nat) (h:j≠x):0 < plc (x :: l) j:=by
 have:Nat.beq x j=false:=by
  cases hb:Nat.beq x j
  ·rfl
  ·exact (h (Nat.eq_of_beq_eq_true hb).symm).elim
 simp [plc,this]
theorem endS {s S:St} (h:SameSt s S:=by refine ⟨rfl,rfl,?_⟩;repeat' (first | exact trivial | refine ⟨rfl,?_⟩)):s=S∨SameSt s S:=.inr h
theorem drawG_x {id:Nat} {ops:Array Oper} {k:List It} {st:St} (W:Nat->Bool) (x:Nat) (pre tail:List Nat) (hm:X.P.follows .mixedOrders=true) (hc:chkX ops W x pre tail=true) (S:St)
  (h:goX X ⟨ops,W,[.rnd fun s=>s=S∨SameSt s S],st,none⟩ x tail pre true st.sl st) (hk:go X 4000 k S):DrawG X id ops k st:=by
 intro E a w hr;have hr':=drew_rel hr;simp only [chkX,Bool.and_eq_true] at hc;obtain ⟨⟨⟨⟨⟨⟨hL,hO⟩,hS⟩,hDD⟩,hX⟩,hpre⟩,htail⟩:=hc
 cases hxo:ops[x]? with
 | none=>rw [hxo] at hX;cases hX
 | some xo=>
 rw [hxo] at hX;simp only [Bool.and_eq_true,Bool.not_eq_true'] at hX;obtain ⟨hxE,hxL⟩:=hX;simp only [chkL,Bool.and_eq_true,List.all_eq_true,Nat.blt_eq,Nat.ble_eq,beq_iff_eq,List.mem_range] at hL;obtain ⟨⟨⟨⟨_,h1b⟩,h1c⟩,hlen⟩,h1d⟩:=hL;have hp:=pwB_spec h1d;have hp1:=List.pairwise_cons.1 hp;have hsel:=chkO_sel hO;have hWL:=chkO_wl hO
 have hx0:∀ j,j≠x->plc (x :: (pre ++ tail)) x < plc (x :: (pre ++ tail)) j:=fun j hj=>by
  rw [plc_zero];exact plc_pos _ hj
 have hxs:=(Array.getElem?_eq_some_iff.1 hxo).1;have hS':=hS;simp only [chkS,List.all_eq_true,List.mem_range,Bool.or_eq_true,Bool.not_eq_true'] at hS'
 have hsx:∀ (i:Nat) (o:Oper),ops[i]? = some o->i≠x->isE o.op=false->ordB ops ops.size x i=false->swapB ops W x i=true:=fun i o ho hne he hd=>by
  rcases hS' i (Array.getElem?_eq_some_iff.1 ho).1 x hxs with ((h1 | h1) | h1) | h1
  ·have:¬ Nat.blt (plc (x :: (pre ++ tail)) x) (plc (x :: (pre ++ tail)) i)=true:=by simp [h1]
   have:=hx0 i hne;simp at *;omega
  ·simp [exX,ho,he] at h1
  ·rw [hd] at h1;cases h1
  ·exact h1
 have hne:∀ i∈pre ++ tail,i≠x:=fun i hi e=>by
  have:=hp1.1 i hi;rw [e] at this;omega
 have hs:=relD_start hr' (ops:=ops) (W:=W) (k:=[.rnd fun s=>s=S∨SameSt s S])
 have hrun:=goX_sound (D:=⟨⟨ops,W,[.rnd fun s=>s=S∨SameSt s S],st,none⟩,E,w.drew⟩) hr'.env.em hsel hWL hsx (fun i hi=>by
  refine ⟨hne i (List.mem_append_right _ hi),?_⟩;have:=List.all_eq_true.1 htail i hi
  cases ho:ops[i]? with
  | none=>rw [ho] at this;cases this
  | some o=>
   rw [ho] at this;simp only [Bool.or_eq_true,Bool.not_eq_true'] at this;exact ⟨o,rfl,this⟩) hxs pre (fun i hi=>by
  refine ⟨h1c i (by simp [hi]),?_⟩;have:=List.all_eq_true.1 hpre i hi
  simpa using this) hp true st.sl st h E a w.drew hs
 refine wp_region_any hm ?_;refine any_of_x (C:=CC E st.bx w.drew) (Q:=kq X [.rnd fun s=>s=S∨SameSt s S] .normal) (π:=plc (x :: (pre ++ tail))) hxo hxE hxL hx0 hO hS hDD (fun a w hq=>?_) ops.size (Array.replicate ops.size false) (pre ++ tail) a _ (by simp) ?_ (by simp [hxs]) ?_ hp ?_ (fun _=>hs.cc rfl) hrun
 ·obtain ⟨st1,E1,hrel,hJ⟩:=hq;rcases hJ with rfl | hJ
  ·exact go_sound 4000 _ _ hk E1 a w hrel
  ·exact go_sound 4000 _ _ hk E1 a w (same_rel hrel hJ)
 ·intro i o ho hl;have:i < ops.size:=(Array.getElem?_eq_some_iff.1 ho).1;simp [this] at hl
 ·intro i;constructor
  ·intro hi;have:=h1c i (by simp [List.mem_append.1 hi]);exact ⟨hne i hi,this,by simp [this]⟩
  ·rintro ⟨h1,h2,_⟩;have:=h1b i h2;have h4:i=x∨i∈pre ++ tail:=by simpa using this
   exact h4.resolve_left h1
 ·simp only [List.length_cons] at hlen;exact hlen
end
end Dv
end Go.Proofs.YtadhpeooehkklaaGreat
namespace Go.Proofs.YtadhpeooehkklaaGreat
namespace Dv
open Go Go.RowKit
inductive Sched
 | fin
 | op (i:Nat) (t:Sched)
 | ev (i:Nat) (t alt:Sched)
 | stop
section
variable {P:Program} {ops:Array Oper} {C:World->Prop} {Q:Act->World->Prop} {W:Nat->Bool}
def rdy (ops:Array Oper) (rem:List Nat) (i:Nat):Bool:=
 match ops[i]? with
 | some o=>o.after.toList.all fun e=>!Region.binds .any e || !rem.contains e.on
 | none=>false
def evB (ops:Array Oper) (i:Nat):Bool:=match ops[i]? with | some o=>isE o.op | none=>false
def chkA (ops:Array Oper):Sched->List Nat->Option (List Nat)->Bool
 | .fin,rem,m=>m.isNone && rem.isEmpty
 | .op i t,rem,m=>m.isNone && (rem.contains i && (!evB ops i && (rdy ops rem i && chkA ops t (rem.erase i) none)))
 | .ev i t alt,rem,m=>rem.contains i && (evB ops i && (rdy ops rem i && (chkA ops t (rem.erase i) none && chkA ops alt rem (some (i :: m.getD [])))))
 | .stop,rem,m=>match m with
  | some seen=>rem.all fun j=>!rdy ops rem j || seen.contains j
  | none=>false
def chkP (ops:Array Oper) (W:Nat->Bool):Bool:=
 (List.range ops.size).all fun i=>(List.range ops.size).all fun j=>
  Nat.beq i j || ordB ops ops.size i j || ordB ops ops.size j i || (evB ops i && evB ops j) || (swapB ops W j i && swapB ops W i j)
def runS (P:Program) (ops:Array Oper) (W:Nat->Bool) (C:World->Prop) (Q:Act->World->Prop):Sched->Act->World->Prop
 | .fin,a,w=>Q a w
 | .op i t,a,w=>∃ o,ops[i]? = some o/\∃ v,Yl P ops C o v a/\(isL o.op=true->C w)/\runS P ops W C Q t (a.put o.dst v) w
 | .ev i t alt,a,w=>(∃ o,ops[i]? = some o/\stepX P ops o a w fun a' w'=>(W i=false->C w->C w')/\runS P ops W C Q t a' w')/\runS P ops W C Q alt a w
 | .stop,_,_=>True
def RunA (P:Program) (ops:Array Oper) (W:Nat->Bool) (C:World->Prop) (Q:Act->World->Prop) (rem:List Nat) (a:Act) (w:World):Prop:=∃ T,chkA ops T rem none=true/\runS P ops W C Q T a w
def Cl (ops:Array Oper) (rem:List Nat):Prop:=∀ (k:Nat) o,ops[k]? = some o->k ∉ rem->∀ e∈o.after,Region.binds .any e=true->e.on ∉ rem
theorem rdy_spec {rem:List Nat} {i:Nat} (h:rdy ops rem i=true):∃ o,ops[i]? = some o/\∀ e∈o.after,Region.binds .any e=true->e.on ∉ rem:=by
 unfold rdy at h;split at h
 ·rename_i o ho;refine ⟨o,ho,fun e he hb=>?_⟩;have:=List.all_eq_true.1 h e (by simpa using he);rw [hb] at this;simpa using this
 ·cases h
theorem rdy_erase {rem:List Nat} {i j:Nat} (h:rdy ops rem i=true):rdy ops (rem.erase j) i=true:=by
 obtain ⟨o,ho,ha⟩:=rdy_spec h;unfold rdy;rw [ho];simp only [List.all_eq_true,Bool.or_eq_true,Bool.not_eq_true'];intro e he;cases hb:Region.binds .any e
 ·exact .inl rfl
 ·right;have:=ha e (by simpa using he) hb;simp only [List.contains_eq_mem,decide_eq_false_iff_not];exact fun hm=>this (List.mem_of_mem_erase hm)
theorem cl_erase {rem:List Nat} (hn:rem.Nodup) (hc:Cl ops rem) {i:Nat} (h:rdy ops rem i=true):Cl ops (rem.erase i):=by
 intro k o ho hk e he hb hm;have hm':=List.mem_of_mem_erase hm;by_cases hki:k=i
 ·subst hki;obtain ⟨o',ho',ha⟩:=rdy_spec h;rw [ho] at ho';simp only [oI] at ho';subst ho';exact ha e he hb hm'
 ·exact hc k o ho (fun hkm=>hk ((List.mem_erase_of_ne hki).2 hkm)) e he hb hm'
theorem cl_ord {rem:List Nat} (hc:Cl ops rem):∀ (n:Nat) (j k:Nat) o,ops[k]? = some o->(∀ e∈o.after,Region.binds .any e=true->e.on ∉ rem)->ordB ops n j k=true->j ∉ rem
 | 0,j,k,o,_,_,h=>by simp [ordB] at h
 | n + 1,j,k,o,ho,hall,h=>by
  simp only [ordB,ho,List.any_eq_true,Bool.and_eq_true,Bool.or_eq_true] at h;obtain ⟨e,he,hb,hj⟩:=h;have he':e∈o.after:=by simpa using he
  have h1:=hall e he' hb;rcases hj with hj | hj
  ·have:e.on=j:=by simpa using hj
   rw [<- this];exact h1
  ·cases hoe:ops[e.on]? with
   | none=>
    cases n with
    | zero=>simp [ordB] at hj
    | succ n=>simp [ordB,hoe] at hj
   | some o'=>exact cl_ord hc n j e.on o' hoe (hc e.on o' hoe h1) hj
theorem rdy_swap {rem:List Nat} (hP:chkP ops W=true) (hc:Cl ops rem) {i j:Nat} (hi:rdy ops rem i=true) (hj:rdy ops rem j=true) (him:i∈rem) (hjm:j∈rem) (hij:i≠j) (hev:evB ops i=false∨evB ops j=false):swapB ops W j i=true:=by
 obtain ⟨o,ho,ha⟩:=rdy_spec hi;obtain ⟨o',ho',ha'⟩:=rdy_spec hj;simp only [chkP,List.all_eq_true,List.mem_range] at hP;have h1:=hP i (Array.getElem?_eq_some_iff.1 ho).1 j (Array.getElem?_eq_some_iff.1 ho').1;simp only [Bool.or_eq_true,Bool.and_eq_true,Nat.beq_eq] at h1;rcases h1 with (((h1 | h1) | h1) | h1) | h1
 ·exact (hij h1).elim
 ·exact (cl_ord hc _ _ _ o' ho' ha' h1 him).elim
 ·exact (cl_ord hc _ _ _ o ho ha h1 hjm).elim
 ·rcases hev with h | h
  ·rw [h] at h1;simp at h1
  ·rw [h] at h1;simp at h1
 ·exact h1.1
theorem evB_eq {i:Nat} {o:Oper} (h:ops[i]? = some o):evB ops i=isE o.op:=by unfold evB;rw [h]
theorem pull_pure (hsel:∀ (j:Nat) (o:Oper) cs b,ops[j]? = some o->o.op ≠ .select cs b) (hP:chkP ops W=true) {i:Nat} {o:Oper} (hi:ops[i]? = some o) (hE:isE o.op=false) :
  ∀ (T:Sched) (rem:List Nat) (a:Act) (w:World),rem.Nodup->Cl ops rem->chkA ops T rem none=true->runS P ops W C Q T a w->i∈rem->rdy ops rem i=true ->
   ∃ v,Yl P ops C o v a/\(isL o.op=true->C w)/\RunA P ops W C Q (rem.erase i) (a.put o.dst v) w
 | .fin,rem,a,w,_,_,hc,_,him,_=>by
  simp only [chkA,Bool.and_eq_true,List.isEmpty_iff] at hc;rw [hc.2] at him;cases him
 | .stop,rem,a,w,_,_,hc,_,_,_=>by simp [chkA] at hc
 | .ev j t alt,rem,a,w,hn,hcl,hc,hr,him,hrd=>by
  exfalso
  have key:∀ (T:Sched) (seen:List Nat),(∀ k∈seen,evB ops k=true)->chkA ops T rem (some seen)=true->False:=by
   intro T
   induction T with
   | fin=>intro seen _ h;simp [chkA] at h
   | op=>intro seen _ h;simp [chkA] at h
   | ev k t alt _ ih=>
    intro seen hs h;simp only [chkA,Bool.and_eq_true,Option.getD_some] at h
    exact ih (k :: seen) (fun q hq=>by
     rcases List.mem_cons.1 hq with rfl | hq
     ·exact h.2.1
     ·exact hs q hq) h.2.2.2.2
   | stop=>
    intro seen hs h;simp only [chkA,List.all_eq_true,Bool.or_eq_true,Bool.not_eq_true'] at h;rcases h i him with h1 | h1
    ·rw [hrd] at h1;cases h1
    ·have:=hs i (by simpa using h1);rw [evB_eq hi,hE] at this;cases this
  simp only [chkA,Bool.and_eq_true,Option.getD_none] at hc;exact key alt [j] (fun k hk=>by rw [List.mem_singleton] at hk;rw [hk];exact hc.2.1) hc.2.2.2.2
 | .op j t,rem,a,w,hn,hcl,hc,hr,him,hrd=>by
  simp only [chkA,Bool.and_eq_true,Bool.not_eq_true'] at hc;obtain ⟨_,hjm,hje,hjr,hct⟩:=hc;have hjm:j∈rem:=by simpa using hjm
  simp only [runS] at hr;obtain ⟨y,hy,v,hyv,hyc,hrt⟩:=hr;by_cases hij:i=j
  ·subst hij;rw [hi] at hy;simp only [oI] at hy;subst hy;exact ⟨v,hyv,hyc,t,hct,hrt⟩
  ·have hsw:=rdy_swap hP hcl hrd hjr him hjm hij (.inr hje);obtain ⟨ap1,ap2,_,_⟩:=swapB_spec hsw hy hi;obtain ⟨u,hu,huc,T',hT',hrT⟩:=pull_pure hsel hP hi hE t (rem.erase j) (a.put y.dst v) w (hn.erase j) (cl_erase hn hcl hjr) hct hrt ((List.mem_erase_of_ne hij).2 him) (rdy_erase hrd);have hso:=fun cs b=>hsel i o cs b hi;have hsy:=fun cs b=>hsel j y cs b hy;obtain ⟨_,hdd,_⟩:=Oper.apart_spec ap1;refine ⟨u,(Yl.same ap1 hso).1 hu,huc,.op j T',?_,?_⟩
   ·simp only [chkA,Bool.and_eq_true,Bool.not_eq_true'];refine ⟨rfl,?_,hje,rdy_erase hjr,?_⟩
    ·simpa using (List.mem_erase_of_ne (Ne.symm hij)).2 hjm
    ·rw [List.erase_comm];exact hT'
   ·simp only [runS];refine ⟨y,hy,v,(Yl.same ap2 hsy).2 hyv,hyc,?_⟩;rw [<- Act.put_comm a v u hdd];exact hrT
theorem pull_alt {e:Nat}:∀ (T:Sched) (rem:List Nat) (seen:List Nat) (a:Act) (w:World),chkA ops T rem (some seen)=true->runS P ops W C Q T a w->e∈rem->rdy ops rem e=true->e ∉ seen ->
  ∃ o t,ops[e]? = some o/\chkA ops t (rem.erase e) none=true/\stepX P ops o a w fun a' w'=>(W e=false->C w->C w')/\runS P ops W C Q t a' w'
 | .fin,rem,seen,a,w,hc,_,_,_,_=>by simp [chkA] at hc
 | .op _ _,rem,seen,a,w,hc,_,_,_,_=>by simp [chkA] at hc
 | .stop,rem,seen,a,w,hc,_,hm,hr,hs=>by
  simp only [chkA,List.all_eq_true,Bool.or_eq_true,Bool.not_eq_true'] at hc;rcases hc e hm with h | h
  ·rw [hr] at h;cases h
  ·exact (hs (by simpa using h)).elim
 | .ev i t alt,rem,seen,a,w,hc,hr,hm,hrd,hs=>by
  simp only [chkA,Bool.and_eq_true,Option.getD_some] at hc;simp only [runS] at hr;obtain ⟨⟨o,ho,hst⟩,hra⟩:=hr;by_cases hie:i=e
  ·subst hie;exact ⟨o,t,ho,hc.2.2.2.1,hst⟩
  ·exact pull_alt alt rem (i :: seen) a w hc.2.2.2.2 hra hm hrd (fun h=>by
    rcases List.mem_cons.1 h with h | h
    ·exact hie h.symm
    ·exact hs h)
theorem pull_ev (hsel:∀ (j:Nat) (o:Oper) cs b,ops[j]? = some o->o.op ≠ .select cs b) (hP:chkP ops W=true) {i:Nat} {o:Oper} (hi:ops[i]? = some o) (hE:isE o.op=true) :
  ∀ (T:Sched) (rem:List Nat) (a:Act) (w:World),rem.Nodup->Cl ops rem->chkA ops T rem none=true->runS P ops W C Q T a w->i∈rem->rdy ops rem i=true ->
   stepX P ops o a w (fun a' w'=>(W i=false->C w->C w')/\RunA P ops W C Q (rem.erase i) a' w')
 | .fin,rem,a,w,_,_,hc,_,him,_=>by
  simp only [chkA,Bool.and_eq_true,List.isEmpty_iff] at hc;rw [hc.2] at him;cases him
 | .stop,rem,a,w,_,_,hc,_,_,_=>by simp [chkA] at hc
 | .ev j t alt,rem,a,w,hn,hcl,hc,hr,him,hrd=>by
  simp only [chkA,Bool.and_eq_true,Option.getD_none] at hc;simp only [runS] at hr;obtain ⟨⟨y,hy,hst⟩,hra⟩:=hr;by_cases hij:i=j
  ·subst hij;rw [hi] at hy;simp only [oI] at hy;subst hy;exact stepX_mono (fun a' w' h=>⟨h.1,t,hc.2.2.2.1,h.2⟩) hst
  ·obtain ⟨o',t',ho',hct,hs⟩:=pull_alt alt rem [j] a w hc.2.2.2.2 hra him hrd (by simpa using hij);rw [hi] at ho';simp only [oI] at ho';subst ho';exact stepX_mono (fun a' w' h=>⟨h.1,t',hct,h.2⟩) hs
 | .op j t,rem,a,w,hn,hcl,hc,hr,him,hrd=>by
  simp only [chkA,Bool.and_eq_true,Bool.not_eq_true'] at hc;obtain ⟨_,hjm,hje,hjr,hct⟩:=hc;have hjm:j∈rem:=by simpa using hjm
  simp only [runS] at hr;obtain ⟨y,hy,v,hyv,hyc,hrt⟩:=hr
  have hij:i≠j:=by
   rintro rfl;rw [evB_eq hi,hE] at hje;cases hje
  have hsw:=rdy_swap hP hcl hrd hjr him hjm hij (.inr hje);obtain ⟨ap1,ap2,_,hLW⟩:=swapB_spec hsw hy hi;have hso:=fun cs b=>hsel i o cs b hi;have hsy:=fun cs b=>hsel j y cs b hy;have ih:=pull_ev hsel hP hi hE t (rem.erase j) (a.put y.dst v) w (hn.erase j) (cl_erase hn hcl hjr) hct hrt ((List.mem_erase_of_ne hij).2 him) (rdy_erase hrd);refine stepX_mono ?_ (stepX_form ((stepX_put ap1 hso).1 ih));rintro a' w' ⟨⟨hcw,T',hT',hrT⟩,u,rfl⟩;refine ⟨hcw,.op j T',?_,?_⟩
  ·simp only [chkA,Bool.and_eq_true,Bool.not_eq_true'];refine ⟨rfl,?_,hje,rdy_erase hjr,?_⟩
   ·simpa using (List.mem_erase_of_ne (Ne.symm hij)).2 hjm
   ·rw [List.erase_comm];exact hT'
  ·simp only [runS];refine ⟨y,hy,v,(Yl.same (u:=u) ap2 hsy).2 hyv,fun hL=>?_,hrT⟩
   have hWi:W i=false:=by
    cases hw:W i
    ·rfl
    ·exact (hLW ⟨hL,hw⟩).elim
   exact hcw hWi (hyc hL)
theorem any_of_A {Q':Exit->Act->World->Prop} (hsel:∀ (j:Nat) (o:Oper) cs b,ops[j]? = some o->o.op ≠ .select cs b) (hP:chkP ops W=true) (hb:∀ (i:Nat) (o:Oper),ops[i]? = some o->∀ e∈o.after,Region.binds .any e=true->e.on < ops.size)
  (hQ:∀ a w,Q a w->Q' .normal a w):∀ (fuel:Nat) (listed:Array Bool) (rem:List Nat) (a:Act) (w:World),
  listed.size=ops.size->(∀ i,i∈rem↔i < ops.size/\listed.getD i true=false)->rem.Nodup->Cl ops rem->rem.length<=fuel->RunA P ops W C Q rem a w->wpAny P .any ops Q' fuel listed a w:=by
 have hrdy:∀ (listed:Array Bool) (rem:List Nat),listed.size=ops.size->(∀ i,i∈rem↔i < ops.size/\listed.getD i true=false)->∀ i,i∈Region.ready .any ops listed↔i∈rem/\rdy ops rem i=true:=by
  intro listed rem hsz hrem i
  have hl:∀ k,k < ops.size->(listed.getD k false=true↔k ∉ rem):=fun k hk=>by
   have hk':k < listed.size:=by rw [hsz];exact hk
   rw [hrem k];simp [hk,hk']
  rw [mem_ready];constructor
  ·rintro ⟨h1,o,ho,h2⟩;have hi:=(Array.getElem?_eq_some_iff.1 ho).1;refine ⟨(hrem i).2 ⟨hi,h1⟩,?_⟩;unfold rdy;rw [ho];simp only [List.all_eq_true,Bool.or_eq_true,Bool.not_eq_true'];intro e he;cases hbe:Region.binds .any e
   ·exact .inl rfl
   ·right;have he':e∈o.after:=by simpa using he
    simp only [List.contains_eq_mem,decide_eq_false_iff_not];exact (hl _ (hb i o ho e he' hbe)).1 (h2 e he' hbe)
  ·rintro ⟨h1,h2⟩;obtain ⟨o,ho,h3⟩:=rdy_spec h2;exact ⟨((hrem i).1 h1).2,o,ho,fun e he hbe=>(hl _ (hb i o ho e he hbe)).2 (h3 e he hbe)⟩
 intro fuel
 induction fuel with
 | zero=>
  intro listed rem a w hsz hrem hn hcl hlen hr;have:rem=[]:=List.length_eq_zero_iff.1 (by omega);subst this;obtain ⟨T,hT,hrT⟩:=hr;refine ⟨?_,hQ _ _ ?_⟩
  ·rw [List.eq_nil_iff_forall_not_mem];intro i hi;cases ((hrdy listed [] hsz hrem i).1 hi).1
  ·cases T with
   | fin=>exact hrT
   | op i t=>simp [chkA] at hT
   | ev i t alt=>simp [chkA] at hT
   | stop=>simp [chkA] at hT
 | succ fuel ih=>
  intro listed rem a w hsz hrem hn hcl hlen hr;obtain ⟨T,hT,hrT⟩:=hr;refine ⟨fun h0=>?_,fun i hi=>?_⟩
  ·cases T with
   | fin=>exact hQ _ _ hrT
   | op i t=>
    exfalso;simp only [chkA,Bool.and_eq_true] at hT;have:=(hrdy listed rem hsz hrem i).2 ⟨by simpa using hT.2.1,hT.2.2.2.1⟩;rw [h0] at this;cases this
   | ev i t alt=>
    exfalso;simp only [chkA,Bool.and_eq_true] at hT;have:=(hrdy listed rem hsz hrem i).2 ⟨by simpa using hT.1,hT.2.2.1⟩;rw [h0] at this;cases this
   | stop=>simp [chkA] at hT
  ·obtain ⟨him,hir⟩:=(hrdy listed rem hsz hrem i).1 hi;obtain ⟨o,ho,_⟩:=rdy_spec hir;have hi':=(Array.getElem?_eq_some_iff.1 ho).1
   have hmem':∀ k,k∈rem.erase i↔k < ops.size/\(listed.setIfInBounds i true).getD k true=false:=by
    intro k;rw [List.Nodup.mem_erase_iff hn];by_cases hki:k=i
    ·subst hki;simp [hsz,hi']
    ·rw [getD_set_ne true (Ne.symm hki)];simp only [ne_eq,hki,not_false_eq_true,true_and];exact hrem k
   have hnext:∀ a' w',RunA P ops W C Q (rem.erase i) a' w' -> wpAny P .any ops Q' fuel (listed.setIfInBounds i true) a' w':=fun a' w' h=>
    ih _ (rem.erase i) a' w' (by simp [hsz]) hmem' (hn.erase i) (cl_erase hn hcl hir) (by rw [List.length_erase_of_mem him];have:=List.length_pos_of_mem him;omega) h
   refine step_wpOp ho ?_
   cases hE:isE o.op with
   | true=>exact stepX_mono (fun a' w' h=>hnext a' w' h.2) (pull_ev hsel hP ho hE T rem a w hn hcl hT hrT him hir)
   | false=>
    obtain ⟨v,hy,hc,h⟩:=pull_pure hsel hP ho hE T rem a w hn hcl hT hrT him hir;exact stepX_of_Yl hy hc (hnext _ _ h)
end
def goA (X:Ctx) (D:Dr):Sched->Bool->List (Nat × Sl)->St->Prop
 | .fin,_,_,st=>go X 4000 D.k st
 | .op i t,c,s0,st=>
  match D.ops.toList[i]? with
  | some o=>goD X ⟨D.ops,D.W,D.k,D.st0,some (goA X D t)⟩ 3000 c [(i,o)] s0 st
  | none=>False
 | .ev i t alt,c,s0,st=>
  (match D.ops.toList[i]? with
  | some o=>goD X ⟨D.ops,D.W,D.k,D.st0,some (goA X D t)⟩ 3000 c [(i,o)] s0 st
  | none=>False)/\goA X D alt c s0 st
 | .stop,_,_,_=>True
def chkN (ops:Array Oper):Bool:=Region.noSelect ops && (List.range ops.size).all fun i=>match ops[i]? with | some o=>o.after.toList.all fun e=>!Region.binds .any e || Nat.blt e.on ops.size | none=>true
section
variable {X:Ctx} {D:Dw}
theorem goA_sound (hD:EnvM D.E0 D.d.st0.bx D.wr) (hf:D.d.fin=none):∀ (T:Sched) (rem:List Nat) m,chkA D.d.ops T rem m=true->∀ c s0 st,goA X D.d T c s0 st->∀ E a w,RelD X D c E s0 st a w->runS X.P D.d.ops D.d.W D.C (D.Q X) T a w:=by
 intro T
 have hone:∀ (t:Sched) (i:Nat) (o:Oper),D.d.ops[i]? = some o->(∀ c s0 st,goA X D.d t c s0 st->∀ E a w,RelD X D c E s0 st a w->runS X.P D.d.ops D.d.W D.C (D.Q X) t a w)->∀ c s0 st,goD X ⟨D.d.ops,D.d.W,D.d.k,D.d.st0,some (goA X D.d t)⟩ 3000 c [(i,o)] s0 st->∀ E a w,RelD X D c E s0 st a w ->
   runT X.P D.d.ops D.d.W D.C (fun a w=>runS X.P D.d.ops D.d.W D.C (D.Q X) t a w) [i] a w:=fun t i o ho ih c s0 st hg E a w h=>by
  have h1:=goD_sound (D:=⟨⟨D.d.ops,D.d.W,D.d.k,D.d.st0,some (goA X D.d t)⟩,D.E0,D.wr⟩) hD 3000 c [(i,o)] s0 st hg (fun p hp=>by
   rw [List.mem_singleton] at hp;rw [hp]
   exact ho) E a w ⟨h.rel,h.x,h.β,h.t0,h.cc⟩
  refine runT_mono ?_ h1;rintro a w ⟨c,E,s0,st,h2,h3⟩;exact ih c s0 st h3 E a w ⟨h2.rel,h2.x,h2.β,h2.t0,h2.cc⟩
 induction T with
 | fin=>
  intro rem m _ c s0 st hg E a w h;show D.Q X a w;unfold Dw.Q;rw [hf];exact go_sound 4000 _ _ hg E a w h.rel
 | stop=>intro rem m _ c s0 st hg E a w h;exact trivial
 | op i t ih=>
  intro rem m hc c s0 st hg E a w h;simp only [chkA,Bool.and_eq_true,Bool.not_eq_true'] at hc;simp only [goA] at hg;split at hg
  ·rename_i o ho;have ho:D.d.ops[i]? = some o:=by simpa using ho
   have h4:=hone t i o ho (ih _ _ hc.2.2.2.2) c s0 st hg E a w h;have hE:isE o.op=false:=by rw [<- evB_eq ho];exact hc.2.2.1
   simp only [runT,ho,hE,Bool.false_eq_true,if_false] at h4;exact ⟨o,ho,h4⟩
  ·exact hg.elim
 | ev i t alt ih1 ih2=>
  intro rem m hc c s0 st hg E a w h;simp only [chkA,Bool.and_eq_true] at hc;obtain ⟨hg,hg2⟩:=hg;refine ⟨?_,ih2 _ _ hc.2.2.2.2 c s0 st hg2 E a w h⟩;split at hg
  ·rename_i o ho;have ho:D.d.ops[i]? = some o:=by simpa using ho
   have h4:=hone t i o ho (ih1 _ _ hc.2.2.2.1) c s0 st hg E a w h;have hE:isE o.op=true:=by rw [<- evB_eq ho];exact hc.2.1
   simp only [runT,ho,hE,if_true] at h4;exact ⟨o,ho,h4⟩
  ·exact hg.elim
end
end Dv
end Go.Proofs.YtadhpeooehkklaaGreat
set_option maxRecDepth 100000
namespace Go.Proofs.YtadhpeooehkklaaGreat
open Go Go.RowKit
namespace Dv
section
variable {X:Ctx} {st:St}
theorem drawG_r {id:Nat} {ops:Array Oper} {k:List It} (W:Nat->Bool) (T:Sched) (i j:Nat) (hm:X.P.follows .mixedOrders=true) (hc:(chkN ops && chkP ops W && chkA ops T (List.range ops.size) none)=true) (S:St)
  (h:goA X ⟨ops,W,[.rnd fun s=>(s=S∨SameSt s S)∨SameSt s (renSt i j S)],st,none⟩ T true st.sl st) (hij:(Nat.ble X.n0 i && Nat.ble X.n0 j && Nat.blt i S.bx.length && Nat.blt j S.bx.length)=true) (hk:go X 4000 k S) (hX:X.bt=[]:=by exact rfl):DrawG X id ops k st:=by
 intro E a w hr;have hr':=drew_rel hr;simp only [Bool.and_eq_true] at hc;simp only [Bool.and_eq_true,Nat.ble_eq,Nat.blt_eq] at hij;obtain ⟨⟨hN,hP⟩,hT⟩:=hc;simp only [chkN,Bool.and_eq_true,List.all_eq_true,List.mem_range] at hN;have hs:=relD_start hr' (ops:=ops) (W:=W) (k:=[.rnd fun s=>(s=S∨SameSt s S)∨SameSt s (renSt i j S)]);have hrun:=goA_sound (D:=⟨⟨ops,W,[.rnd fun s=>(s=S∨SameSt s S)∨SameSt s (renSt i j S)],st,none⟩,E,w.drew⟩) hr'.env.em rfl T _ _ hT true st.sl st h E a w.drew hs;refine wp_region_any hm ?_;refine any_of_A (C:=CC E st.bx w.drew) (Q:=kq X [.rnd fun s=>(s=S∨SameSt s S)∨SameSt s (renSt i j S)] .normal) (Region.noSelect_spec hN.1) hP (fun i o ho e he hb=>?_) (fun a w hq=>?_) ops.size (Array.replicate ops.size false) (List.range ops.size) a _ (by simp) ?_ List.nodup_range ?_ (by simp) ⟨T,hT,hrun⟩
 ·have h1:=hN.2 i (Array.getElem?_eq_some_iff.1 ho).1;rw [ho] at h1;have h2:=List.all_eq_true.1 h1 e (by simpa using he);rw [hb] at h2;simpa using h2
 ·obtain ⟨st1,E1,hrel,hJ⟩:=hq;rcases hJ with (rfl | hJ) | hJ
  ·exact go_sound 4000 _ _ hk E1 a w hrel
  ·exact go_sound 4000 _ _ hk E1 a w (same_rel hrel hJ)
  ·obtain ⟨E2,hrel2⟩:=ren_rel hX (same_rel hrel hJ) hij.1.1.1 hij.1.1.2 hij.1.2 hij.2;exact go_sound 4000 _ _ hk E2 a w hrel2
 ·intro i;simp only [List.mem_range];constructor
  ·intro hi;exact ⟨hi,by simp [hi]⟩
  ·intro hi;exact hi.1
 ·intro k o ho hk;exact (hk (List.mem_range.2 (Array.getElem?_eq_some_iff.1 ho).1)).elim
theorem drawG_rs {id:Nat} {ops:Array Oper} {k:List It} (T:Sched) (i j:Nat) (hm:X.P.follows .mixedOrders=true) (hc:(chkN ops && chkP ops (stW ops) && chkA ops T (List.range ops.size) none)=true) (S:St)
  (h:goA X ⟨ops,stW ops,[.rnd fun s=>(s=S∨SameSt s S)∨SameSt s (renSt i j S)],st,none⟩ T true st.sl st) (hij:(Nat.ble X.n0 i && Nat.ble X.n0 j && Nat.blt i S.bx.length && Nat.blt j S.bx.length)=true) (hk:go X 4000 k S) (hX:X.bt=[]:=by exact rfl):DrawG X id ops k st:=
 drawG_r (stW ops) T i j hm hc S h hij hk hX
end
end Dv
end Go.Proofs.YtadhpeooehkklaaGreat
