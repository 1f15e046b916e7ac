/- Part 5 of the proof: What is known of the nodes of a plan; A plan, as its readers know it; Values, plain; how many are in one, how deep they lie; What is read of a value, as the plain data; What the frames of laws over values share; The greatest multiple of a unit that is at most a number; UTF-8: the program's lead, value; UTF-8: the program's Decode; UTF-8: the document's reckoned, Scalar, Encode; UTF-8: the document's Scalar, Encode; UTF-8, plain: the document's well-formed bytes are the program's; a text's first units; UTF-8: the document's begins, left, Decode; Tables of runes; the unit at a place: the program's and the document's; The library's copyCheck of strings.Builder, laid at this program; The library's Builder at this program: what WriteString and String do to memory, exactly; Rules for the evaluator: the library's Builder, written and read; Rules for the evaluator: the library's Builder: WriteByte, WriteString of any text; a call that is handed a Builder; Texts in quotes: plain; numbers in sixteens; Texts in quotes: numbers in sixteens, which runes may steer a terminal; Texts in quotes: short escapes, kinds of runes; Texts in quotes: the unit at a place, as it is written; Texts in quotes: the document's unit; the program's and the document's Quote; Texts in quotes: the program's and the document's Quote; Values that are the same; Which values fit which nodes: plain, as the program finds it and as the document says it; tree's leaf, kids, Fits; tree.Fits; the document's To, Fits; Values as they are written: plain; tree.write, Raw; Paths: data, Step compared with itself; ref09.Begins, Same on the same path; ref25.Step; A lattice, as its readers know it; Leq; joins are the document's; Where steps lead in a plan, and how places are seen, plain; What is seen of values, and where that differs, plain; Which values may be what is seen of one, plain; How what is seen of values is written: plain; The library's strings.Repeat, laid at this program by the kit's tool (lay-plain; wip/tools/plain2tpl.py); How values without names are written: the program's and the document's Leaf; The document's Bottom, Right of paths; the program's Right of paths; Rules for the evaluator: String of a Builder that holds nothing; The text of a path, of a row: plain, the program's, the document's. No condition. -/
import Derived.Shelf.Strings.OnBuilder
import Derived.Shelf.RegionOpenPlain
import Derived.Lib.Strings
import Derived.Lib.Slices
import Derived.Lib.Walk
import Derived.Lib.Builder
import Derived.Lib.AppendStr
import Derived.Lib.UnsafeStr
import Derived.WalkKit
import Derived.Laws.Externs
import Derived.Lib.Hide
import Derived.Shelf.Strings.Repeat
import Derived.Test.YtfifjddnnmfeoaaGreatMl2
import Derived.Test.YtfifjddnnmfeoaaGreatMl3
import Derived.Test.YtfifjddnnmfeoaaGreatMl4
set_option linter.all false
set_option maxRecDepth 100000
namespace Go.Proofs.YtfifjddnnmfeoaaGreat
open Go Go.RowKit Dv Tryz
structure SR (L N:Nat) (e:Ed):Prop where
 to0:e.bare=true->e.to = -1
 to1:e.bare=false->∃ k:Nat,e.to=k/\k < N
 lab:∃ k:Nat,e.label=k/\k < L
 seen:∃ k:Nat,e.seen=k/\k < L
 wide:1<=e.wide/\e.wide<=64
 ck:0<=e.ck/\e.ck<=3
 cn:(e.ck=0->e.cn=0)/\(e.ck=1->1<=e.cn)/\(e.ck=2->0<=e.cn/\e.cn<=4096)/\(e.ck=3->e.cn=0)
structure dX (L N:Nat) (n:Nd):Prop where
 k1:1<=n.ag
 k8:n.ag<=8
 SS:n.ag=2->n.lo<=n.hi
 lo0:n.ag≠2->n.lo=0/\n.hi=0
 PH:n.ag=3->0<=n.most/\n.most<=4096
 PI:n.ag=5->0<=n.most/\n.most<=1024
 PJ:n.ag≠3->n.ag≠5->n.most=0
 ae:n.ag=4->n.ae ≠ []/\n.ae.length<=64/\n.ae.Nodup/\∀ s∈n.ae,a7 s=true
 Lw:n.ag≠4->n.ae=[]
 leaf:n.ag < 5->n.ay=[]
 one:n.ag=5∨n.ag=6->∃ e,n.ay=[e]/\e.bare=false/\e.name=al
 many:n.ag=7∨n.ag=8->n.ay.length<=64/\(n.ag=8->n.ay ≠ [])/\(n.ay.map Ed.name).Nodup/\∀ e∈n.ay,a7 e.name=true
 bare:∀ e∈n.ay,e.bare=true->n.ag=8
 n5:∀ e∈n.ay,SR L N e
theorem qy {l:List Wd} (h:∀ j x,l[j]? = some x->aF l j x=0):(au l).Nodup/\∀ x∈l,a7 x.s=true:=by
 have key:∀ e,e<=l.length->(au (l.take e)).Nodup:=by
  intro e
  induction e with
  | zero=>intro _;simp [au]
  | succ e ih=>
   intro he;obtain ⟨x,hx⟩:∃ x,l[e]? = some x:=⟨_,gE (by omega)⟩;exact iI hx (ih (by omega)) (h e x hx)
 refine ⟨by have:=key l.length (Nat.le_refl _);rwa [List.take_length] at this,fun x hx=>?_⟩;obtain ⟨j,hj⟩:=List.mem_iff_getElem?.1 hx;have:=h j x hj;unfold aF at this;cases hb:a7 x.s
 ·rw [hb] at this;simp at this
 ·rfl
theorem sy {all:List Wd}:∀ {l:List Wd} {i:Nat},(enumL all i l).1=0->∀ j x,l[j]? = some x->aF all (i + j) x=0
 | [],i,_,j,x,hx=>by simp at hx
 | y :: r,i,h,j,x,hx=>by
  rw [enumL] at h;split at h
  ·rename_i h1;exact (h1 h).elim
  ·rename_i h1
   cases j with
   | zero=>
    simp only [List.getElem?_cons_zero,oI] at hx;subst hx;simpa using h1
   | succ j=>
    simp only [List.getElem?_cons_succ] at hx;have:=sy h j x hx
    rwa [show i + 1 + j=i + (j + 1) by omega] at this
theorem tR {h:Hd} (he:iB h=(0,0)):h.ae ≠ []/\h.ae.length<=64/\(au h.ae).Nodup/\∀ x∈h.ae,a7 x.s=true:=by
 unfold iB at he;split at he
 ·cases he
 ·rename_i h1;split at he
  ·cases he
  ·rename_i h2;refine ⟨h1,by omega,?_⟩
   exact qy fun j x hx=>by
    have:=sy (all:=h.ae) (i:=0) (by rw [he]) j x hx
    rwa [Nat.zero_add] at this
theorem Aw {X:Lx} {L:List ByteArray}:∀ {ps:Pts},(knP X L ps).1=0->∀ {p:Ph} {u:Ty},(p,u)∈ps.toList->(X.bad p.label).1=0/\(X.bad p.cl).1=0
 | .nil,_,p,u,h=>by cases h
 | .cons q v r,hk,p,u,h=>by
  have hr:=(mX hk).2;rw [knP] at hk;split at hk
  ·rename_i h1;exact (h1 hk).elim
  rename_i h1;split at hk
  ·rename_i h2;exact (h2 hk).elim
  rename_i h2;rcases List.mem_cons.1 h with h | h
  ·cases h;exact ⟨by simpa using h1,by simpa using h2⟩
  ·exact Aw hr h
theorem nc {p q:Ph} (h:bL p q=true):p.bare=q.bare/\p.wide=q.wide/\p.ck=q.ck/\p.cn=q.cn:=by
 unfold bL at h;simp only [Bool.and_eq_true,beq_iff_eq,decide_eq_true_eq] at h;exact ⟨h.1.1.1.1.1,h.1.1.1.1.2,h.1.1.2,h.1.2⟩
theorem Fo {w:Int} (h:0<=w/\w<=64):1<=nK w/\nK w<=64:=by
 unfold nK;split<;>omega
theorem yU {p:Ph} (h:(aW p).1=0):(0<=p.ck/\p.ck<=3)/\(p.ck=0->p.cn=0)/\(p.ck=1->1<=p.cn)/\(p.ck=2->0<=p.cn/\p.cn<=4096)/\(p.ck=3->p.cn=0):=by
 unfold aW at h;by_cases c0:p.ck=0
 ·rw [if_pos c0] at h;by_cases c1:p.cn=0/\p.cl=[]
  ·exact ⟨by omega,fun _=>c1.1,by omega,by omega,by omega⟩
  ·rw [if_neg c1] at h;simp at h
 rw [if_neg c0] at h;by_cases c1:p.ck < 0∨3 < p.ck
 ·rw [if_pos c1] at h;simp at h
 rw [if_neg c1] at h;by_cases c2:(p.ck=1/\p.cn < 1)∨(p.ck=2/\(p.cn < 0∨4096 < p.cn))∨(p.ck=3/\p.cn≠0)
 ·rw [if_pos c2] at h;simp at h
 exact ⟨by omega,by omega,by omega,by omega,by omega⟩
theorem B3 {p:Ph} (h:(dg p).1=0):(0<=p.wide/\p.wide<=64)/\(aW p).1=0:=by
 unfold dg at h;by_cases c0:p.wide < 0∨64 < p.wide
 ·rw [if_pos c0] at h;simp at h
 rw [if_neg c0] at h;by_cases c1:(cy p.label).1≠0
 ·rw [if_pos c1] at h;exact absurd h c1
 rw [if_neg c1] at h;exact ⟨by omega,h⟩
theorem Fp {t:Ty} (h:t.h.ag≠9):1<=t.nn:=by
 obtain ⟨h',ps⟩:=t;have h:¬ h'.ag=9:=h;rw [Ty.nn,if_neg h];omega
theorem B4 {S:Sch} {k:Nat} {x:Wd × Ty} (hx:S.types[k]? = some x):firstA S k + x.2.nn<=oa (kf S):=by
 have h1:=nJ hx;rw [<- h1]
 have h2:firstA S (k + 1)=oa ((nM S).take (k + 1)):=by
  unfold firstA oa nM;rw [<- List.map_take,List.map_map];rfl
 have h3:=Ff (nM S) (k + 1);have h4:oa (kf S)=oa (nM S) + oa [S.root]:=tQ _ _;omega
theorem wE {lev:List Wd->Int} {s:Sch} {n:Nd}:∀ {l:List Ty} {k i:Nat},(ndsA lev s l k)[i]? = some n->∃ t∈l,∃ u∈flatT t,n=Pw lev s u (k + i)/\i + u.nn<=oa l
 | [],k,i,h=>by simp [ndsA] at h
 | t :: r,k,i,h=>by
  rw [ndsA] at h;rw [jD];have hl:=gW lev s t k;by_cases hi:i < t.nn
  ·rw [List.getElem?_append_left (by omega),tO,List.getElem?_map,List.getElem?_zipIdx] at h
   cases hu:(flatT t)[i]? with
   | none=>rw [hu] at h;simp at h
   | some u=>
    rw [hu] at h;simp only [Option.map_some,oI] at h;have:=sv t i u hu;exact ⟨t,List.mem_cons_self,u,mG hu,by rw [<- h];simp,by omega⟩
  ·rw [List.getElem?_append_right (by omega),hl] at h;obtain ⟨t',h1,u,h2,h3,h4⟩:=wE h;refine ⟨t',List.mem_cons_of_mem _ h1,u,h2,?_,by omega⟩;rw [h3];congr 1;omega
theorem qz (S:Sch):(bW S).length=oa (kf S):=by rw [j4,qu]
theorem B5 {S:Sch} (hF:Fg S) {i:Nat} {n:Nd} (h:(bW S)[i]? = some n):dX S.af.length (bW S).length n:=by
 rw [qz];rw [j4] at h;obtain ⟨t,ht,u,hu,rfl,ke⟩:=wE h;rw [Nat.zero_add];have Po:=wv t ⟨_,_,hF.wr t ht⟩ u hu;have hk:=wj t (hF.kn t ht) u hu;have QB:=wy t u hu;have hT:=Fj Po;obtain ⟨SU,_⟩:=ql hF.lat;have iX:=dn S.af;have PK:=hF.ends;obtain ⟨uh,us⟩:=u;simp only [Ty.h,Ty.ps] at hT QB;have QC:=(qi hk).2;have bR:=hT.own;unfold pD at bR;simp only [Bool.and_eq_true,Bool.or_eq_true,decide_eq_true_eq] at bR;obtain ⟨⟨⟨⟨o1,o2⟩,o3⟩,o4⟩,o5⟩:=bR;have k1:=hT.k1;have k9:=hT.k9
 have Pa:∀ l:List Wd,(labW (au S.af) l).1=0->∃ k:Nat,fU S l=k/\k < S.af.length:=by
  intro l hl;have:=B2 (f:=fQ S.af.length (dG (au S.af) S.order)) (L:=au S.af) (by rw [iX];exact SU) hl
  rwa [iX] at this
 have Pb:∀ (p:Ph) (v:Ty) (k':Nat),(p,v)∈us.toList->(p.bare=false->k' + v.nn<=i + 1 + us.nn)->(p.bare=true->yL S p v k' = -1)/\(p.bare=false->∃ k:Nat,yL S p v k'=k/\k < oa (kf S)):=by
  intro p v k' hm iO;refine ⟨fun hb=>by simp [yL,hb],fun hb=>?_⟩;have hkv:=As QC hm hb;obtain ⟨vh,vs⟩:=v;by_cases h9:vh.ag=9
  ·obtain ⟨j,hj⟩:=Option.ne_none_iff_exists'.1 ((qi hkv).1 h9);have qN:=(eu hj).1;rw [qd] at qN;obtain ⟨k,hk⟩:=PK j qN;have mn:=tI hk;obtain ⟨x,hx⟩:∃ x,S.types[k]? = some x:=⟨_,gE mn.1⟩;have h1:=B4 hx;have h2:=Fp (mn.2 x hx);refine ⟨firstA S k,?_,by omega⟩;simp [yL,hb,tN,Ty.h,h9,Qy,hj,namedN,hk]
  ·have h1:=Fp (t:=.mk vh vs) h9;have h2:=iO hb;have h3:(Ty.mk uh us).nn=1 + us.nn:=by rw [Ty.nn,if_neg QB]
   refine ⟨k',by simp [yL,hb,tN,Ty.h,h9],by omega⟩
 have vU:∀ p v,(p,v)∈us.toList->(0<=p.wide/\p.wide<=64)/\(0<=p.ck/\p.ck<=3)/\((p.ck=0->p.cn=0)/\(p.ck=1->1<=p.cn)/\(p.ck=2->0<=p.cn/\p.cn<=4096)/\(p.ck=3->p.cn=0))/\(p.bare=true->uh.ag=8):=by
  intro p v hm;obtain ⟨j,hj⟩:=List.mem_iff_getElem?.1 hm
  have hlen:us.len≠0:=by
   cases us with
   | nil=>simp [Pts.toList] at hm
   | cons _ _ _=>simp [Pts.len]
  by_cases h5:uh.ag=5∨uh.ag=6
  ·obtain ⟨q,t',rfl,_,lm,_,_,_⟩:=hT.one h5;simp only [Pts.toList,List.mem_singleton,Prod.mk.injEq] at hm;obtain ⟨rfl,rfl⟩:=hm;obtain ⟨w1,w2,w3,w4⟩:=nc lm;have z1:du.wide=0:=rfl;have z2:du.ck=0:=rfl;have z3:du.cn=0:=rfl;have z4:du.bare=false:=rfl;rw [z1] at w2;rw [z2] at w3;rw [z3] at w4;rw [z4] at w1;refine ⟨by omega,by omega,⟨by omega,by omega,by omega,by omega⟩,fun hb=>?_⟩;rw [w1] at hb;cases hb
  ·obtain ⟨_,hP⟩:=(hT.many (by omega)).2.2 j p v hj;rcases hP with ⟨hb,h8,_,lm⟩ | ⟨hb,hp,_⟩
   ·obtain ⟨w1,w2,w3,w4⟩:=nc lm;have z1:dK.wide=0:=rfl;have z2:dK.ck=0:=rfl;have z3:dK.cn=0:=rfl;rw [z1] at w2;rw [z2] at w3;rw [z3] at w4;exact ⟨by omega,by omega,⟨by omega,by omega,by omega,by omega⟩,fun _=>h8⟩
   ·obtain ⟨w1,w2⟩:=B3 hp;obtain ⟨w3,w4⟩:=yU w2;exact ⟨w1,w3,w4,fun h=>by rw [hb] at h;cases h⟩
 have PL:us.len=0->us = .nil:=fun h=>by
  cases us with
  | nil=>rfl
  | cons _ _ _=>simp [Pts.len] at h
 refine {
  k1:=k1
  k8:=by show uh.ag<=8;omega
  SS:=hT.int
  lo0:=fun h2=>?_
  PH:=hT.text
  PI:=fun h5=>?_
  PJ:=fun h3 h5=>?_
  ae:=fun h4=>?_
  Lw:=fun h4=>?_
  leaf:=fun h5=>?_
  one:=fun h5=>?_
  many:=fun h7=>?_
  bare:=fun e he hb=>?_
  n5:=fun e he=>?_ }
 ·show uh.lo=0/\uh.hi=0;exact o1.resolve_left h2
 ·obtain ⟨q,t',rfl,_,_,kz,fm,_⟩:=hT.one (.inl h5);exact ⟨kz,fm⟩
 ·show uh.most=0;exact o2.resolve_left (fun h=>h.elim h3 h5)
 ·obtain ⟨e1,e2,e3,e4⟩:=tR (hT.enum h4);show au uh.ae ≠ []/\(au uh.ae).length<=64/\(au uh.ae).Nodup/\∀ s∈au uh.ae,a7 s=true;refine ⟨fun h=>e1 (by simpa [au] using h),by rw [dn];exact e2,e3,fun s hs=>?_⟩;unfold au at hs;obtain ⟨w,hw,rfl⟩:=List.mem_map.1 hs;exact e4 w hw
 ·show au uh.ae=[];have:=o4.resolve_right h4;have:uh.ae=[]:=List.eq_nil_of_length_eq_zero this;rw [this];all_goals rfl
 ·show edsP (fU S) S us (i + 1)=[];have hk5:uh.ag < 5:=h5;rw [PL (o3.resolve_right (by omega))];rfl
 ·show ∃ e,edsP (fU S) S us (i + 1)=[e]/\_;obtain ⟨q,t',rfl,hn,lm,_,_,_⟩:=hT.one h5;refine ⟨BV (fU S) q (yL S q t' (i + 1)),rfl,?_,hn⟩;exact (nc lm).1
 ·show (edsP (fU S) S us (i + 1)).length<=64/\(_->edsP (fU S) S us (i + 1) ≠ [])/\((edsP (fU S) S us (i + 1)).map Ed.name).Nodup/\∀ e∈edsP (fU S) S us (i + 1),a7 e.name=true;obtain ⟨m1,m2,m3⟩:=hT.many h7
  have jf:∀ j x,(pNames us)[j]? = some x->aF (pNames us) j x=0:=by
   intro j x hx
   have hj:j < us.len:=by
    have:=(gS hx).1
    rwa [kK] at this
   obtain ⟨p,t',hp⟩:=Pts.gy hj;rw [iA hp] at hx;simp only [oI] at hx;rw [<- hx];exact (m3 j p t' hp).1
  obtain ⟨n1,n2⟩:=qy jf;refine ⟨by rw [l8];exact m1,fun h8 hn=>m2 h8 ?_,by rw [kT];exact n1,fun e he=>?_⟩
  ·have:=l8 (fU S) S us (i + 1);rw [hn] at this;simpa using this.symm
  ·have:e.name∈au (pNames us):=by rw [<- kT (lev:=fU S) (s:=S) (k:=i + 1)];exact List.mem_map_of_mem he
   unfold au at this;obtain ⟨w,hw,h⟩:=List.mem_map.1 this;rw [<- h];exact n2 w hw
 ·obtain ⟨p,v,k',h1,rfl,_⟩:=qw he;exact (vU p v h1).2.2.2 hb
 ·obtain ⟨p,v,k',h1,rfl,h3⟩:=qw he;obtain ⟨h4,h5⟩:=Pb p v k' h1 h3;obtain ⟨h6,h7,h8,_⟩:=vU p v h1;obtain ⟨h9,ly⟩:=Aw QC h1;exact { to0:=h4,to1:=h5,lab:=Pa _ h9,seen:=Pa _ ly,wide:=Fo h6,ck:=h7,cn:=h8 }
theorem qA {lev:List Wd->Int} {s:Sch} {n:Nd}:∀ {l:List Ty} {k:Nat},n∈ndsA lev s l k->∃ t∈l,∃ u∈flatT t,∃ k',n=Pw lev s u k'
 | [],_,h=>by cases h
 | t :: r,k,h=>by
  rw [ndsA] at h;rcases List.mem_append.1 h with h | h
  ·rw [tO] at h;obtain ⟨x,hx,rfl⟩:=List.mem_map.1 h;have:=(List.mem_zipIdx hx).2.2;refine ⟨t,List.mem_cons_self,x.1,?_,_,rfl⟩;rw [this];exact List.getElem_mem _
  ·obtain ⟨t',ht,h⟩:=qA h;exact ⟨t',List.mem_cons_of_mem _ ht,h⟩
theorem sA {S:Sch} {n:Nd} (h:n∈bW S) (hS:S.wt<=1099511627776):n.ae.length<=1099511627776/\n.ay.length<=1099511627776:=by
 rw [j4] at h;obtain ⟨t,ht,u,hu,k,rfl⟩:=qA h;have h1:=H4 hS t ht;have h2:=wo t u hu;obtain ⟨uh,us⟩:=u;have h3:=cw uh.ae;have h4:=us.jq;simp only [Ty.wt,Hd.wt] at h2;simp only [Pw,Ty.h,Ty.ps,dn,l8];omega
abbrev zNd:List DV:=[.v (.int .i64 0),.v (.int .i64 0),.v (.int .i64 0),.v (.int .i64 0),.v (.int .i64 0),.v (.slice none 0 0),.v (.slice none 0 0)]
structure jF (S:Sch) (ND:List Nd) (PC:List DV):Prop where
 fine:Fg S
 wt:S.wt<=1099511627776
 uH:ND=bW S
 ok:∀ n∈ND,dX S.af.length ND.length n
 nl:ND.length<=1099511627776
 len:EvP Tryz.prog 110 [.pt PC 0] (.v (.int .i64 ND.length))
 root:EvP Tryz.prog 19 [.pt PC 0] (.v (.int .i64 (ch S)))
 ah:∀ (i:Nat) n,ND[i]? = some n->EvP Tryz.prog 51 [.pt PC 0,.v (.int .i64 i)] (.tup [.agg (n7 n),.v (.bool true)])
 JH:∀ i:Int,(i < 0∨ND.length<=i)->EvP Tryz.prog 51 [.pt PC 0,.v (.int .i64 i)] (.tup [.agg zNd,.v (.bool false)])
 lat:∃ ap js,(cB S ap js).OK/\EvP Tryz.prog 38 [.pt PC 0] (cB S ap js).pd
theorem Fq {S:Sch} {d:DV} (hS:S.wt<=1099511627776) (h0:(kS S).1=0) (hd:EX S d):∃ PC,d = .pt PC 0/\jF S (bW S) PC:=by
 obtain ⟨ap,gF,js,hX,hT,gJ,rfl⟩:=hd;have hF:=Fi h0;have bI:=fun n (h:n∈bW S)=>sA h hS
 refine ⟨_,rfl,{
  fine:=hF
  wt:=hS
  uH:=rfl
  ok:=fun n hn=>?_
  nl:=by rw [qz];exact Nat.le_trans (Ls S) hS
  len:=mZ _ _ _ _ _ _
  root:=yR _ _ _ _ _ _
  ah:=fun i n h=>yS _ _ _ _ _ _ i n h (bI n (mG h)).1 (bI n (mG h)).2
  JH:=fun i h=>yT _ _ _ _ _ _ i h
  lat:=⟨ap,js,hX,B1 _ _ _ _ _ _⟩ }⟩
 obtain ⟨i,hi⟩:=List.mem_iff_getElem?.1 hn;exact B5 hF hi
def Fs (S:Sch) (r:DV):Prop:=((kS S).1≠0/\r = .tup [.v (.pointer none),(kS S).d])∨((kS S).1=0/\∃ PC,jF S (bW S) PC/\r = .tup [.pt PC 0,Ft.d (0,0)])
theorem B6 {S:Sch} (hS:S.wt<=1099511627776) {r:DV} {os:List (List DV)} {tk:List TkE} (h:yP S r os tk):Fs S r:=by
 unfold yP at h;by_cases h0:(kS S).1=0
 ·rw [if_neg (by rw [h0];simp)] at h;obtain ⟨d,hd,rfl⟩:=h;obtain ⟨PC,rfl,hP⟩:=Fq hS h0 hd;exact .inr ⟨h0,PC,hP,rfl⟩
 ·rw [if_pos h0] at h;exact .inl ⟨h0,h⟩
inductive Val where
 | mk (k n:Int) (s:ByteArray) (ks:List Val)
def Val.k:Val->Int | .mk k _ _ _=>k
def Val.n:Val->Int | .mk _ n _ _=>n
def Val.s:Val->ByteArray | .mk _ _ s _=>s
def Val.ks:Val->List Val | .mk _ _ _ ks=>ks
mutual
def cH:Val->List DV
 | .mk k n s ks=>[.v (.int .i64 k),.v (.int .i64 n),.v (.string s),.sl 4 (dVals ks) none]
def dVals:List Val->List (List DV)
 | []=>[]
 | v :: r=>cH v :: dVals r
end
theorem nd:∀ l:List Val,dVals l=l.map cH
 | []=>rfl
 | v :: r=>by rw [dVals,nd r];all_goals rfl
theorem dB (l:List Val):(dVals l).length=l.length:=by rw [nd,List.length_map]
theorem nf {l:List Val} {e:Nat} {x:Val} (h:l[e]? = some x):(dVals l)[e]? = some (cH x):=by rw [nd,List.getElem?_map,h];all_goals rfl
mutual
def Val.wt:Val->Nat
 | .mk _ _ s ks=>64 + s.size + eN ks
def eN:List Val->Nat
 | []=>0
 | v :: r=>v.wt + eN r
end
theorem Val.eX:∀ v:Val,64<=v.wt
 | .mk _ _ _ _=>by rw [Val.wt];omega
theorem ma:∀ {l:List Val} {x:Val},x∈l->x.wt<=eN l
 | v :: r,x,h=>by
  rcases List.mem_cons.1 h with rfl | h
  ·rw [eN];omega
  ·have:=ma h;rw [eN];omega
theorem fV:∀ l:List Val,64 * l.length<=eN l
 | []=>Nat.le_refl _
 | v :: r=>by
  have:=fV r;have:=v.eX;rw [eN,List.length_cons];omega
theorem B7 {α:Type} {l:List α} {e:Nat} {x:α} (h:l[e]? = some x):l.take (e + 1)=l.take e ++ [x]:=by rw [List.take_add_one,h];all_goals rfl
theorem wF:Tryz.prog.cellsOf 45=4:=by kernel_rfl
end Go.Proofs.YtfifjddnnmfeoaaGreat
namespace Go.Proofs.YtfifjddnnmfeoaaGreat
open Go Go.RowKit Dv
def tyVS:List TypeId:=[45,43,9,3]
theorem tyVS_ok:∀ t∈tyVS,pG Tryz.prog tyVS t=true:=by
 have h:(tyVS.all fun t=>pG Tryz.prog tyVS t)=true:=by kernel_rfl
 exact fun t ht=>List.all_eq_true.1 h t ht
end Go.Proofs.YtfifjddnnmfeoaaGreat
set_option maxRecDepth 100000
namespace Go.Proofs.YtfifjddnnmfeoaaGreat
open Go Go.RowKit Dv Tryz
def aY (n u:Int):Int × Bool:=if u < 1 then (0,false) else if n - n % u < -9223372036854775808 then (0,false) else (n - n % u,true)
def Fu (r:Int × Bool):DV:=.tup [.v (.int .i64 r.1),.v (.bool r.2)]
theorem Fv {n u:Int} (hu:1<=u):(n.tmod u < 0->n.tmod u + u=n % u)/\(¬ n.tmod u < 0->n.tmod u=n % u):=by
 have h1:=Int.emod_nonneg n (show u≠0 by omega);have h2:=Int.emod_lt_of_pos n (show 0 < u by omega);have h3:=Int.tmod_eq_emod (a:=n) (b:=u);have h4:(u.natAbs:Int)=u:=Int.natAbs_of_nonneg (by omega);rw [h3];split<;>omega
theorem kU (n u:Int) (hn : -9223372036854775808<=n/\n<=9223372036854775807) (hu : -9223372036854775808<=u/\u<=9223372036854775807):EvP Tryz.prog 279 [.v (.int .i64 n),.v (.int .i64 u)] (Fu (aY n u)):=by
 have hF:aY n u=if u < 1 then (0,false) else if n - n % u < -9223372036854775808 then (0,false) else (n - n % u,true):=rfl
 generalize aY n u=F at hF ⊢;refine ev_go (P:=Tryz.prog) tt tt_ok 5000 24 [.tmp 4,.tmp 5] Tryz.func279 rfl Tryz.ntmps279 rfl (nL rfl) (fun E9 w9 hn9 hm9=>?_);refine br (fun c=>?_) (fun c=>?_)
 ·have c:u < 1:=by simpa using c
  rw [if_pos c] at hF;subst hF;exact ⟨_,ax,rfl⟩
 have c:¬ u < 1:=by simpa using c
 rw [if_neg c] at hF;have hm:=Fv (n:=n) (u:=u) (by omega);have h1:=Int.emod_nonneg n (show u≠0 by omega);have h2:=Int.emod_lt_of_pos n (show 0 < u by omega)
 have h5 : -u<=n.tmod u/\n.tmod u < u:=by
  rcases Int.lt_or_le (n.tmod u) 0 with h | h
  ·have:=hm.1 h;omega
  ·have:=hm.2 (by omega);omega
 have Gp:IntKind.i64.wrap (-9223372036854775808 + n % u) = -9223372036854775808 + n % u:=wrap64 (by omega) (by omega);refine ⟨⟨rfl,by omega⟩,?_⟩;refine br (fun g=>?_) (fun g=>?_)
 ·have g:n.tmod u < 0:=by simpa using g
  have ml:IntKind.i64.wrap (n.tmod u + u)=n % u:=by rw [hm.1 g];exact wrap64 (by omega) (by omega)
  refine br (fun h=>?_) (fun h=>?_)
  ·have h:n < IntKind.i64.wrap (-9223372036854775808 + IntKind.i64.wrap (n.tmod u + u)):=by simpa using h
   rw [ml,Gp] at h;rw [if_pos (by omega)] at hF;subst hF;exact ⟨_,ax,rfl⟩
  ·have h:¬ n < IntKind.i64.wrap (-9223372036854775808 + IntKind.i64.wrap (n.tmod u + u)):=by simpa using h
   rw [ml,Gp] at h;rw [if_neg (by omega)] at hF;have GC:IntKind.i64.wrap (n - IntKind.i64.wrap (n.tmod u + u))=n - n % u:=by rw [ml];exact wrap64 (by omega) (by omega)
   refine ⟨.tup [.v (.int .i64 (IntKind.i64.wrap (n - IntKind.i64.wrap (n.tmod u + u)))),.v (.bool true)],ax,?_⟩;rw [hF];exact congrArg (fun z=>DV.tup [.v (.int .i64 z),.v (.bool true)]) GC
 ·have g:¬ n.tmod u < 0:=by simpa using g
  have ml:n.tmod u=n % u:=hm.2 g;refine br (fun h=>?_) (fun h=>?_)
  ·have h:n < IntKind.i64.wrap (-9223372036854775808 + n.tmod u):=by simpa using h
   rw [ml,Gp] at h;rw [if_pos (by omega)] at hF;subst hF;exact ⟨_,ax,rfl⟩
  ·have h:¬ n < IntKind.i64.wrap (-9223372036854775808 + n.tmod u):=by simpa using h
   rw [ml,Gp] at h;rw [if_neg (by omega)] at hF;have GC:IntKind.i64.wrap (n - n.tmod u)=n - n % u:=by rw [ml];exact wrap64 (by omega) (by omega)
   refine ⟨.tup [.v (.int .i64 (IntKind.i64.wrap (n - n.tmod u))),.v (.bool true)],ax,?_⟩;rw [hF];exact congrArg (fun z=>DV.tup [.v (.int .i64 z),.v (.bool true)]) GC
def av (c:Nat):Nat:=if c < 128 then 1 else if 194<=c/\c<=223 then 2 else if 224<=c/\c<=239 then 3 else if 240<=c/\c<=244 then 4 else 0
def dC (c:Nat):Nat:=if c=224 then 160 else if c=240 then 144 else 128
def dD (c:Nat):Nat:=if c=237 then 159 else if c=244 then 143 else 191
theorem B8 (c:Nat):EvP Tryz.prog 220 [.v (.int .u8 c)] (.tup [.v (.int .i64 (av c:Nat)),.v (.int .u8 (dC c:Nat)),.v (.int .u8 (dD c:Nat))]):=by
 have hN:av c=if c < 128 then 1 else if 194<=c/\c<=223 then 2 else if 224<=c/\c<=239 then 3 else if 240<=c/\c<=244 then 4 else 0:=rfl
 have hL:dC c=if c=224 then 160 else if c=240 then 144 else 128:=rfl
 have hH:dD c=if c=237 then 159 else if c=244 then 143 else 191:=rfl
 generalize av c=N at hN ⊢;generalize dC c=L at hL ⊢;generalize dD c=H at hH ⊢;refine ev_go (P:=Tryz.prog) tt tt_ok 5000 41 [.tmp 2,.tmp 3,.tmp 4] Tryz.func220 rfl Tryz.ntmps220 rfl (nL rfl) (fun E9 w9 hn9 hm9=>?_);refine br (fun c1=>?_) (fun c1=>?_)
 ·have c1:(c:Int) < 128:=by simpa using c1
  refine br (fun g=>?_) (fun g=>?_)
  ·have g:(c:Int)=224:=by simpa using g
   have hn:N=1:=by
    rw [hN]
    repeat' split
    all_goals omega
   have hl:L=160:=by
    rw [hL]
    repeat' split
    all_goals omega
   have hh:H=191:=by
    rw [hH]
    repeat' split
    all_goals omega
   rw [hn,hl,hh];exact ⟨_,ax,rfl⟩
  have H6:¬ (c:Int)=224:=by simpa using g
  refine br (fun g=>?_) (fun g=>?_)
  ·have g:(c:Int)=237:=by simpa using g
   have hn:N=1:=by
    rw [hN]
    repeat' split
    all_goals omega
   have hl:L=128:=by
    rw [hL]
    repeat' split
    all_goals omega
   have hh:H=159:=by
    rw [hH]
    repeat' split
    all_goals omega
   rw [hn,hl,hh];exact ⟨_,ax,rfl⟩
  have H7:¬ (c:Int)=237:=by simpa using g
  refine br (fun g=>?_) (fun g=>?_)
  ·have g:(c:Int)=240:=by simpa using g
   have hn:N=1:=by
    rw [hN]
    repeat' split
    all_goals omega
   have hl:L=144:=by
    rw [hL]
    repeat' split
    all_goals omega
   have hh:H=191:=by
    rw [hH]
    repeat' split
    all_goals omega
   rw [hn,hl,hh];exact ⟨_,ax,rfl⟩
  have H8:¬ (c:Int)=240:=by simpa using g
  refine br (fun g=>?_) (fun g=>?_)
  ·have g:(c:Int)=244:=by simpa using g
   have hn:N=1:=by
    rw [hN]
    repeat' split
    all_goals omega
   have hl:L=128:=by
    rw [hL]
    repeat' split
    all_goals omega
   have hh:H=143:=by
    rw [hH]
    repeat' split
    all_goals omega
   rw [hn,hl,hh];exact ⟨_,ax,rfl⟩
  have H9:¬ (c:Int)=244:=by simpa using g
  have hn:N=1:=by
   rw [hN]
   repeat' split
   all_goals omega
  have hl:L=128:=by
   rw [hL]
   repeat' split
   all_goals omega
  have hh:H=191:=by
   rw [hH]
   repeat' split
   all_goals omega
  rw [hn,hl,hh];exact ⟨_,ax,rfl⟩
 have c1:¬ (c:Int) < 128:=by simpa using c1
 refine br (fun k=>?_) (fun k=>?_)
 ·have k:194<=(c:Int)/\(c:Int)<=223:=by simpa [pickB_and] using k
  refine br (fun g=>?_) (fun g=>?_)
  ·have g:(c:Int)=224:=by simpa using g
   have hn:N=2:=by
    rw [hN]
    repeat' split
    all_goals omega
   have hl:L=160:=by
    rw [hL]
    repeat' split
    all_goals omega
   have hh:H=191:=by
    rw [hH]
    repeat' split
    all_goals omega
   rw [hn,hl,hh];exact ⟨_,ax,rfl⟩
  have H6:¬ (c:Int)=224:=by simpa using g
  refine br (fun g=>?_) (fun g=>?_)
  ·have g:(c:Int)=237:=by simpa using g
   have hn:N=2:=by
    rw [hN]
    repeat' split
    all_goals omega
   have hl:L=128:=by
    rw [hL]
    repeat' split
    all_goals omega
   have hh:H=159:=by
    rw [hH]
    repeat' split
    all_goals omega
   rw [hn,hl,hh];exact ⟨_,ax,rfl⟩
  have H7:¬ (c:Int)=237:=by simpa using g
  refine br (fun g=>?_) (fun g=>?_)
  ·have g:(c:Int)=240:=by simpa using g
   have hn:N=2:=by
    rw [hN]
    repeat' split
    all_goals omega
   have hl:L=144:=by
    rw [hL]
    repeat' split
    all_goals omega
   have hh:H=191:=by
    rw [hH]
    repeat' split
    all_goals omega
   rw [hn,hl,hh];exact ⟨_,ax,rfl⟩
  have H8:¬ (c:Int)=240:=by simpa using g
  refine br (fun g=>?_) (fun g=>?_)
  ·have g:(c:Int)=244:=by simpa using g
   have hn:N=2:=by
    rw [hN]
    repeat' split
    all_goals omega
   have hl:L=128:=by
    rw [hL]
    repeat' split
    all_goals omega
   have hh:H=143:=by
    rw [hH]
    repeat' split
    all_goals omega
   rw [hn,hl,hh];exact ⟨_,ax,rfl⟩
  have H9:¬ (c:Int)=244:=by simpa using g
  have hn:N=2:=by
   rw [hN]
   repeat' split
   all_goals omega
  have hl:L=128:=by
   rw [hL]
   repeat' split
   all_goals omega
  have hh:H=191:=by
   rw [hH]
   repeat' split
   all_goals omega
  rw [hn,hl,hh];exact ⟨_,ax,rfl⟩
 have k194:¬ (194<=(c:Int)/\(c:Int)<=223):=by simpa [pickB_and] using k
 refine br (fun k=>?_) (fun k=>?_)
 ·have k:224<=(c:Int)/\(c:Int)<=239:=by simpa [pickB_and] using k
  refine br (fun g=>?_) (fun g=>?_)
  ·have g:(c:Int)=224:=by simpa using g
   have hn:N=3:=by
    rw [hN]
    repeat' split
    all_goals omega
   have hl:L=160:=by
    rw [hL]
    repeat' split
    all_goals omega
   have hh:H=191:=by
    rw [hH]
    repeat' split
    all_goals omega
   rw [hn,hl,hh];exact ⟨_,ax,rfl⟩
  have H6:¬ (c:Int)=224:=by simpa using g
  refine br (fun g=>?_) (fun g=>?_)
  ·have g:(c:Int)=237:=by simpa using g
   have hn:N=3:=by
    rw [hN]
    repeat' split
    all_goals omega
   have hl:L=128:=by
    rw [hL]
    repeat' split
    all_goals omega
   have hh:H=159:=by
    rw [hH]
    repeat' split
    all_goals omega
   rw [hn,hl,hh];exact ⟨_,ax,rfl⟩
  have H7:¬ (c:Int)=237:=by simpa using g
  refine br (fun g=>?_) (fun g=>?_)
  ·have g:(c:Int)=240:=by simpa using g
   have hn:N=3:=by
    rw [hN]
    repeat' split
    all_goals omega
   have hl:L=144:=by
    rw [hL]
    repeat' split
    all_goals omega
   have hh:H=191:=by
    rw [hH]
    repeat' split
    all_goals omega
   rw [hn,hl,hh];exact ⟨_,ax,rfl⟩
  have H8:¬ (c:Int)=240:=by simpa using g
  refine br (fun g=>?_) (fun g=>?_)
  ·have g:(c:Int)=244:=by simpa using g
   have hn:N=3:=by
    rw [hN]
    repeat' split
    all_goals omega
   have hl:L=128:=by
    rw [hL]
    repeat' split
    all_goals omega
   have hh:H=143:=by
    rw [hH]
    repeat' split
    all_goals omega
   rw [hn,hl,hh];exact ⟨_,ax,rfl⟩
  have H9:¬ (c:Int)=244:=by simpa using g
  have hn:N=3:=by
   rw [hN]
   repeat' split
   all_goals omega
  have hl:L=128:=by
   rw [hL]
   repeat' split
   all_goals omega
  have hh:H=191:=by
   rw [hH]
   repeat' split
   all_goals omega
  rw [hn,hl,hh];exact ⟨_,ax,rfl⟩
 have k224:¬ (224<=(c:Int)/\(c:Int)<=239):=by simpa [pickB_and] using k
 refine br (fun k=>?_) (fun k=>?_)
 ·have k:240<=(c:Int)/\(c:Int)<=244:=by simpa [pickB_and] using k
  refine br (fun g=>?_) (fun g=>?_)
  ·have g:(c:Int)=224:=by simpa using g
   have hn:N=4:=by
    rw [hN]
    repeat' split
    all_goals omega
   have hl:L=160:=by
    rw [hL]
    repeat' split
    all_goals omega
   have hh:H=191:=by
    rw [hH]
    repeat' split
    all_goals omega
   rw [hn,hl,hh];exact ⟨_,ax,rfl⟩
  have H6:¬ (c:Int)=224:=by simpa using g
  refine br (fun g=>?_) (fun g=>?_)
  ·have g:(c:Int)=237:=by simpa using g
   have hn:N=4:=by
    rw [hN]
    repeat' split
    all_goals omega
   have hl:L=128:=by
    rw [hL]
    repeat' split
    all_goals omega
   have hh:H=159:=by
    rw [hH]
    repeat' split
    all_goals omega
   rw [hn,hl,hh];exact ⟨_,ax,rfl⟩
  have H7:¬ (c:Int)=237:=by simpa using g
  refine br (fun g=>?_) (fun g=>?_)
  ·have g:(c:Int)=240:=by simpa using g
   have hn:N=4:=by
    rw [hN]
    repeat' split
    all_goals omega
   have hl:L=144:=by
    rw [hL]
    repeat' split
    all_goals omega
   have hh:H=191:=by
    rw [hH]
    repeat' split
    all_goals omega
   rw [hn,hl,hh];exact ⟨_,ax,rfl⟩
  have H8:¬ (c:Int)=240:=by simpa using g
  refine br (fun g=>?_) (fun g=>?_)
  ·have g:(c:Int)=244:=by simpa using g
   have hn:N=4:=by
    rw [hN]
    repeat' split
    all_goals omega
   have hl:L=128:=by
    rw [hL]
    repeat' split
    all_goals omega
   have hh:H=143:=by
    rw [hH]
    repeat' split
    all_goals omega
   rw [hn,hl,hh];exact ⟨_,ax,rfl⟩
  have H9:¬ (c:Int)=244:=by simpa using g
  have hn:N=4:=by
   rw [hN]
   repeat' split
   all_goals omega
  have hl:L=128:=by
   rw [hL]
   repeat' split
   all_goals omega
  have hh:H=191:=by
   rw [hH]
   repeat' split
   all_goals omega
  rw [hn,hl,hh];exact ⟨_,ax,rfl⟩
 have k240:¬ (240<=(c:Int)/\(c:Int)<=244):=by simpa [pickB_and] using k
 refine br (fun g=>?_) (fun g=>?_)
 ·have g:(c:Int)=224:=by simpa using g
  have hn:N=0:=by
   rw [hN]
   repeat' split
   all_goals omega
  have hl:L=160:=by
   rw [hL]
   repeat' split
   all_goals omega
  have hh:H=191:=by
   rw [hH]
   repeat' split
   all_goals omega
  rw [hn,hl,hh];exact ⟨_,ax,rfl⟩
 have H6:¬ (c:Int)=224:=by simpa using g
 refine br (fun g=>?_) (fun g=>?_)
 ·have g:(c:Int)=237:=by simpa using g
  have hn:N=0:=by
   rw [hN]
   repeat' split
   all_goals omega
  have hl:L=128:=by
   rw [hL]
   repeat' split
   all_goals omega
  have hh:H=159:=by
   rw [hH]
   repeat' split
   all_goals omega
  rw [hn,hl,hh];exact ⟨_,ax,rfl⟩
 have H7:¬ (c:Int)=237:=by simpa using g
 refine br (fun g=>?_) (fun g=>?_)
 ·have g:(c:Int)=240:=by simpa using g
  have hn:N=0:=by
   rw [hN]
   repeat' split
   all_goals omega
  have hl:L=144:=by
   rw [hL]
   repeat' split
   all_goals omega
  have hh:H=191:=by
   rw [hH]
   repeat' split
   all_goals omega
  rw [hn,hl,hh];exact ⟨_,ax,rfl⟩
 have H8:¬ (c:Int)=240:=by simpa using g
 refine br (fun g=>?_) (fun g=>?_)
 ·have g:(c:Int)=244:=by simpa using g
  have hn:N=0:=by
   rw [hN]
   repeat' split
   all_goals omega
  have hl:L=128:=by
   rw [hL]
   repeat' split
   all_goals omega
  have hh:H=143:=by
   rw [hH]
   repeat' split
   all_goals omega
  rw [hn,hl,hh];exact ⟨_,ax,rfl⟩
 have H9:¬ (c:Int)=244:=by simpa using g
 have hn:N=0:=by
  rw [hN]
  repeat' split
  all_goals omega
 have hl:L=128:=by
  rw [hL]
  repeat' split
  all_goals omega
 have hh:H=191:=by
  rw [hH]
  repeat' split
  all_goals omega
 rw [hn,hl,hh];exact ⟨_,ax,rfl⟩
def recV:List UInt8->Int
 | [a]=>a.toNat
 | [a,b]=>(a.toNat - 192) * 64 + (b.toNat - 128)
 | [a,b,c]=>(a.toNat - 224) * 4096 + (b.toNat - 128) * 64 + (c.toNat - 128)
 | [a,b,c,d]=>(a.toNat - 240) * 262144 + (b.toNat - 128) * 4096 + (c.toNat - 128) * 64 + (d.toNat - 128)
 | _=>0
def Fw:List UInt8->Bool
 | [a]=>decide (a.toNat < 128)
 | [a,b]=>decide (192<=a.toNat/\a.toNat < 224/\128<=b.toNat/\b.toNat < 192)
 | [a,b,c]=>decide (224<=a.toNat/\a.toNat < 240/\128<=b.toNat/\b.toNat < 192/\128<=c.toNat/\c.toNat < 192)
 | [a,b,c,d]=>decide (240<=a.toNat/\a.toNat < 248/\128<=b.toNat/\b.toNat < 192/\128<=c.toNat/\c.toNat < 192/\128<=d.toNat/\d.toNat < 192)
 | _=>false
theorem B9 {n:Int} (h1 : -2147483648<=n) (h2:n<=2147483647):IntKind.i32.wrap n=n:=by
 simp [IntKind.wrap,IntKind.min,IntKind.max,IntKind.signed,IntKind.bits];omega
theorem Ia {x:Nat} (h:x < 4294967296):(BitVec.ofInt 32 (x:Int)).toNat=x:=by
 rw [BitVec.toNat_ofInt];omega
theorem Fx {x m:Nat} (k:Nat) (hk:m=2 ^ k - 1) (hm:m < 256) (h:x < 256):IntKind.i32.wrap ((BitVec.ofInt IntKind.i32.bits (IntKind.i32.wrap (x:Int)) &&& BitVec.ofInt IntKind.i32.bits (m:Int)).toNat:Nat)=((x % 2 ^ k:Nat):Int):=by
 rw [B9 (n:=(x:Int)) (by omega) (by omega)];show IntKind.i32.wrap ((BitVec.ofInt 32 (x:Int) &&& BitVec.ofInt 32 (m:Int)).toNat:Nat)=_;rw [BitVec.toNat_and,Ia (by omega),Ia (by omega),hk,Nat.and_two_pow_sub_one_eq_mod];have:=Nat.mod_le x (2 ^ k);exact B9 (by omega) (by omega)
theorem sB {x:Nat} (hx:x < 256):IntKind.i32.wrap (IntKind.u8.wrap ((BitVec.ofInt IntKind.u8.bits (x:Int) &&& BitVec.ofInt IntKind.u8.bits 63).toNat:Nat))=((x % 64:Nat):Int):=by
 show IntKind.i32.wrap (IntKind.u8.wrap ((BitVec.ofInt 8 (x:Int) &&& BitVec.ofInt 8 63).toNat:Nat))=_;have e:(BitVec.ofInt 8 (x:Int)).toNat=x:=by rw [BitVec.toNat_ofInt];omega
 rw [BitVec.toNat_and,e,show (BitVec.ofInt 8 63).toNat=2 ^ 6 - 1 from rfl,Nat.and_two_pow_sub_one_eq_mod];rw [IntKind.wrap_u8'];rw [B9 (by omega) (by omega)];omega
theorem Ca {x y:Nat} (h:x < 1000000) (hy:y < 64):IntKind.i32.wrap ((BitVec.ofInt IntKind.i32.bits (IntKind.i32.wrap ((x:Int) * 2 ^ min (Int.toNat 6) IntKind.i32.bits)) ||| BitVec.ofInt IntKind.i32.bits (y:Int)).toNat:Nat)=((x * 64 + y:Nat):Int):=by
 show IntKind.i32.wrap ((BitVec.ofInt 32 (IntKind.i32.wrap ((x:Int) * 64)) ||| BitVec.ofInt 32 (y:Int)).toNat:Nat)=_;rw [B9 (n:=(x:Int) * 64) (by omega) (by omega),show (x:Int) * 64=((x * 64:Nat):Int) by omega,BitVec.toNat_or,Ia (by omega),Ia (by omega)];have:=Nat.shiftLeft_add_eq_or_of_lt (i:=6) (b:=y) hy x;rw [Nat.shiftLeft_eq] at this;rw [show x * 64=x * 2 ^ 6 from rfl,<- this];exact B9 (by omega) (by omega)
theorem q5 {s:ByteArray} {l:List UInt8} (hl:tx s=l) {z:Int} (k:Nat) (hz:z.toNat=k):bU s z.toNat=(l.getD k 0).toNat:=by
 rw [hz,<- hl];all_goals rfl
theorem yV (s:ByteArray) (h:1<=s.size/\s.size<=4):Ev Tryz.prog 221 [.v (.string s)] [] [] (fun r _ _=>∃ z:Int,r = .v (.int .i32 z)/\(Fw (tx s)=true->z=recV (tx s))):=by
 have ic:=bc s;refine ev_go (P:=Tryz.prog) tt tt_ok 5000 57 [.tmp 2] Tryz.func221 rfl Tryz.ntmps221 rfl (nL rfl) (fun E9 w9 hn9 hm9=>?_);refine br (fun c1=>?_) (fun c1=>?_)
 ·refine ⟨⟨by omega,by omega⟩,?_⟩;have c1:s.size=1:=by have:=of_decide_eq_true c1;omega
  obtain ⟨a,hl⟩:∃ a,tx s=[a]:=by
   rw [c1] at ic
   match tx s,ic with
   | [a],_=>exact ⟨a,rfl⟩
  refine ⟨_,rfl,fun _=>?_⟩;have ha:=a.toNat_lt;rw [q5 hl 0 rfl,hl];exact B9 (by show _<=(a.toNat:Int);omega) (by show (a.toNat:Int)<=_;omega)
 ·refine aR (fun _=>false) mo (by decide +kernel) ?_;refine ⟨⟨by omega,by omega⟩,?_⟩;have hw7:IntKind.i64.wrap (7 - (s.size:Int))=7 - s.size:=wrap64 (by omega) (by omega);have ml:IntKind.i64.wrap (1 + 1)=2:=rfl;have Gp:IntKind.i64.wrap (IntKind.i64.wrap (1 + 1) + 1)=3:=rfl
  have c1:¬ s.size=1:=by
   have:=of_decide_eq_false c1;omega
  refine ⟨by rw [hw7];omega,?_⟩;refine br (fun c4=>?_) (fun c4=>?_)
  ·have c4:s.size=4:=by have:=of_decide_eq_true c4;omega
   refine ⟨by omega,?_⟩;refine ⟨⟨by first | omega | (rw [ml];omega),by first | omega | (rw [ml];omega)⟩,?_⟩;refine ⟨by omega,?_⟩;refine ⟨⟨by first | omega | (rw [ml];omega),by first | omega | (rw [ml];omega)⟩,?_⟩;refine ⟨by omega,?_⟩;refine ⟨⟨by first | omega | (rw [Gp];omega),by first | omega | (rw [Gp];omega)⟩,?_⟩
   obtain ⟨a,b,c,d,hl⟩:∃ a b c d,tx s=[a,b,c,d]:=by
    rw [c4] at ic
    match tx s,ic with
    | [a,b,c,d],_=>exact ⟨a,b,c,d,rfl⟩
   refine ⟨_,rfl,fun hi=>?_⟩;have ha:=a.toNat_lt;have hb:=b.toNat_lt;have hc:=c.toNat_lt;have hd:=d.toNat_lt;have hm:IntKind.i32.wrap (IntKind.i32.wrap (1 * 2 ^ min (IntKind.i64.wrap (7 - (s.size:Int))).toNat IntKind.i32.bits) - 1)=((7:Nat):Int):=by rw [c4];all_goals rfl
   rw [hm,q5 hl 0 rfl,q5 hl 1 rfl,q5 hl 2 rfl,q5 hl 3 rfl];simp only [List.getD_cons_zero,List.getD_cons_succ];rw [Fx 3 rfl (by omega) ha,sB hb,Ca (by omega) (by omega),sB hc,Ca (by omega) (by omega),sB hd,Ca (by omega) (by omega)];rw [hl] at hi ⊢;rw [Fw,decide_eq_true_iff] at hi;simp only [recV];omega
  have c4:¬ s.size=4:=by have:=of_decide_eq_false c4;omega
  refine br (fun c3=>?_) (fun c3=>?_)
  ·have c3:s.size=3:=by have:=of_decide_eq_true c3;omega
   refine ⟨by omega,?_⟩;refine ⟨⟨by first | omega | (rw [ml];omega),by first | omega | (rw [ml];omega)⟩,?_⟩;refine ⟨by omega,?_⟩;refine ⟨⟨by first | omega | (rw [ml];omega),by first | omega | (rw [ml];omega)⟩,?_⟩
   obtain ⟨a,b,c,hl⟩:∃ a b c,tx s=[a,b,c]:=by
    rw [c3] at ic
    match tx s,ic with
    | [a,b,c],_=>exact ⟨a,b,c,rfl⟩
   refine ⟨_,rfl,fun hi=>?_⟩;have ha:=a.toNat_lt;have hb:=b.toNat_lt;have hc:=c.toNat_lt;have hm:IntKind.i32.wrap (IntKind.i32.wrap (1 * 2 ^ min (IntKind.i64.wrap (7 - (s.size:Int))).toNat IntKind.i32.bits) - 1)=((15:Nat):Int):=by rw [c3];all_goals rfl
   rw [hm,q5 hl 0 rfl,q5 hl 1 rfl,q5 hl 2 rfl];simp only [List.getD_cons_zero,List.getD_cons_succ];rw [Fx 4 rfl (by omega) ha,sB hb,Ca (by omega) (by omega),sB hc,Ca (by omega) (by omega)];rw [hl] at hi ⊢;rw [Fw,decide_eq_true_iff] at hi;simp only [recV];omega
  have c3:¬ s.size=3:=by have:=of_decide_eq_false c3;omega
  refine br (fun c2=>?_) (fun c2=>?_)
  ·have c2:s.size=2:=by have:=of_decide_eq_true c2;omega
   refine ⟨by omega,?_⟩;refine ⟨⟨by first | omega | (rw [ml];omega),by first | omega | (rw [ml];omega)⟩,?_⟩
   obtain ⟨a,b,hl⟩:∃ a b,tx s=[a,b]:=by
    rw [c2] at ic
    match tx s,ic with
    | [a,b],_=>exact ⟨a,b,rfl⟩
   refine ⟨_,rfl,fun hi=>?_⟩;have ha:=a.toNat_lt;have hb:=b.toNat_lt;have hm:IntKind.i32.wrap (IntKind.i32.wrap (1 * 2 ^ min (IntKind.i64.wrap (7 - (s.size:Int))).toNat IntKind.i32.bits) - 1)=((31:Nat):Int):=by rw [c2];all_goals rfl
   rw [hm,q5 hl 0 rfl,q5 hl 1 rfl];simp only [List.getD_cons_zero,List.getD_cons_succ];rw [Fx 5 rfl (by omega) ha,sB hb,Ca (by omega) (by omega)];rw [hl] at hi ⊢;rw [Fw,decide_eq_true_iff] at hi;simp only [recV];omega
  ·exfalso;have:=of_decide_eq_false c2;omega
def fc (c i b:Nat):Bool:=if i=0 then decide (dC c<=b) && decide (b<=dD c) else decide (128<=b) && decide (b<=191)
def allC (c:Nat) (r:List UInt8) (k:Nat):Bool:=(List.range k).all fun i=>match r[i]? with
 | some b=>fc c i b.toNat
 | none=>false
theorem Cb (c:Nat) (r:List UInt8) (k:Nat):allC c r (k + 1)=(allC c r k && match r[k]? with | some b=>fc c k b.toNat | none=>false):=by
 simp only [allC,List.range_succ,List.all_append,List.all_cons,List.all_nil,Bool.and_true]
theorem oA {c:Nat} {r:List UInt8} {k n:Nat} (h:k < n) (hk:(match r[k]? with | some b=>fc c k b.toNat | none=>false)=false):allC c r n=false:=by
 cases ha:allC c r n
 ·rfl
 ·unfold allC at ha;rw [List.all_eq_true] at ha;have:=ha k (List.mem_range.2 h);rw [hk] at this;cases this
def ja:List UInt8->Bool
 | []=>false
 | c :: r=>decide (1<=av c.toNat) && allC c.toNat r (av c.toNat - 1)
def jG:List UInt8->Nat
 | []=>0
 | c :: r=>if ja (c :: r)=true then av c.toNat else 1
theorem tS {c:UInt8} {r:List UInt8} (h:ja (c :: r)=true):Fw ((c :: r).take (av c.toNat))=true:=by
 unfold ja at h;rw [Bool.and_eq_true,decide_eq_true_iff] at h;obtain ⟨h1,h2⟩:=h
 have hb:∀ i,i < av c.toNat - 1->∃ b:UInt8,r[i]? = some b/\128<=b.toNat/\b.toNat < 192:=fun i hi=>by
  unfold allC at h2;rw [List.all_eq_true] at h2;have h3:=h2 i (List.mem_range.2 hi)
  cases hr:r[i]? with
  | none=>rw [hr] at h3;cases h3
  | some b=>
   rw [hr] at h3;refine ⟨b,rfl,?_⟩;simp only [fc] at h3
   have hL:128<=dC c.toNat:=by
    unfold dC
    repeat' split
    all_goals omega
   have hH:dD c.toNat<=191:=by
    unfold dD
    repeat' split
    all_goals omega
   split at h3<;>(rw [Bool.and_eq_true,decide_eq_true_iff,decide_eq_true_iff] at h3;omega)
 have hn:(av c.toNat=1/\c.toNat < 128)∨(av c.toNat=2/\192<=c.toNat/\c.toNat < 224)∨(av c.toNat=3/\224<=c.toNat/\c.toNat < 240)∨(av c.toNat=4/\240<=c.toNat/\c.toNat < 248):=by
  unfold av at h1 ⊢
  repeat' split at h1
  all_goals (repeat' split)
  all_goals omega
 rcases hn with ⟨hn,hc⟩ | ⟨hn,hc⟩ | ⟨hn,hc⟩ | ⟨hn,hc⟩<;>rw [hn] at hb ⊢
 ·simp [Fw,hc]
 ·obtain ⟨b,h5,h6⟩:=hb 0 (by omega)
  match r,h5 with
  | x :: r,h5=>
   simp only [List.getElem?_cons_zero,oI] at h5;subst h5;simp [Fw];omega
 ·obtain ⟨b,h5,h6⟩:=hb 0 (by omega);obtain ⟨b',h7,h8⟩:=hb 1 (by omega)
  match r,h5,h7 with
  | x :: y :: r,h5,h7=>
   simp only [List.getElem?_cons_zero,List.getElem?_cons_succ,oI] at h5 h7;subst h5 h7;simp [Fw];omega
 ·obtain ⟨b,h5,h6⟩:=hb 0 (by omega);obtain ⟨b',h7,h8⟩:=hb 1 (by omega);obtain ⟨b2,h9,ly⟩:=hb 2 (by omega)
  match r,h5,h7,h9 with
  | x :: y :: v :: r,h5,h7,h9=>
   simp only [List.getElem?_cons_zero,List.getElem?_cons_succ,oI] at h5 h7 h9;subst h5 h7 h9;simp [Fw];omega
set_option maxHeartbeats 4000000 in
theorem sC (s:ByteArray) (aC:Nat) (hs:s.size<=1099511627776) (c:UInt8) (r:List UInt8) (h:(tx s).drop aC=c :: r) :
  Ev Tryz.prog 179 [.v (.string s),.v (.int .i64 aC)] [] [] (fun d _ _=>∃ (z:Int) (n:Nat),d = .tup [.v (.int .i32 z),.v (.int .i64 n),.v (.bool (ja (c :: r)))]/\(ja (c :: r)=true->n=av c.toNat/\z=recV ((c :: r).take n))/\1<=n):=by
 have hlen:aC < s.size:=by
  have:=congrArg List.length h;rw [List.length_drop,bc] at this;simp at this;omega
 have hB:tx (s.extract (aC:Int).toNat (s.size:Int).toNat)=c :: r:=by
  rw [<- h];simp [tx,Int.toNat_natCast];exact List.take_of_length_le (by rw [List.length_drop];have:=bc s;unfold tx at this;omega)
 have bI:(s.extract (aC:Int).toNat (s.size:Int).toNat).size=r.length + 1:=by rw [<- bc,hB];all_goals rfl
 have Gr:∀ (k:Nat) b,r[k]? = some b->bU (s.extract (aC:Int).toNat (s.size:Int).toNat) (k + 1)=b.toNat:=fun k b hk=>by
  show ((tx _).getD (k + 1) 0).toNat=_;rw [hB];simp [List.getD_eq_getElem?_getD,hk]
 have Sz:EvP Tryz.prog 220 [.v (.int .u8 (bU (s.extract (aC:Int).toNat (s.size:Int).toNat) 0:Nat))] (.tup [.v (.int .i64 (av c.toNat:Nat)),.v (.int .u8 (dC c.toNat:Nat)),.v (.int .u8 (dD c.toNat:Nat))]):=by
  have:bU (s.extract (aC:Int).toNat (s.size:Int).toNat) 0=c.toNat:=by
   show ((tx _).getD 0 0).toNat=_;rw [hB];rfl
  rw [this];exact B8 c.toNat
 have hv:=fun (k:Nat) (h1:1<=k) (h2:k<=4) (h3:k<=r.length + 1)=>yV ((s.extract (aC:Int).toNat (s.size:Int).toNat).extract 0 k) (by
  have:((s.extract (aC:Int).toNat (s.size:Int).toNat).extract 0 k).size=k:=by
   rw [ByteArray.size_extract,bI];omega
  omega)
 have hu:ja (c :: r)=(decide (1<=av c.toNat) && allC c.toNat r (av c.toNat - 1)):=rfl;have rM:=tS (c:=c) (r:=r);generalize ja (c :: r)=U at hu rM ⊢
 have hn4:av c.toNat<=4:=by
  unfold av
  repeat' split
  all_goals omega
 refine ev_go (P:=Tryz.prog) tt tt_ok 5000 60 [.tmp 4,.tmp 5,.tmp 6] Tryz.func179 rfl Tryz.ntmps179 rfl (nL rfl) (fun E9 w9 hn9 hm9=>?_);refine br (fun c=>absurd c (by simp [ak];omega)) (fun _=>?_);refine ⟨⟨by omega,by omega,by omega⟩,?_⟩;refine ⟨⟨by omega,by rw [bI];omega⟩,?_⟩;refine call_p NY (Sz) ax rfl ?_;refine br (fun g=>?_) (fun g=>?_)
 ·have g:av c.toNat=0:=by have:=of_decide_eq_true g;omega
  have cj:U=false:=by rw [hu,g];all_goals rfl
  subst cj;exact ⟨.tup [.v (.int .i32 0),.v (.int .i64 (1:Nat)),.v (.bool false)],ax,0,1,rfl,fun h=>(by cases h),by omega⟩
 have g:1<=av c.toNat:=by have:=of_decide_eq_false g;omega
 refine aw (fun j st=>∃ i:Nat,st=⟨[(0,⟨[],.v (.string (s.extract (aC:Int).toNat (s.size:Int).toNat))⟩),(7,⟨[],.v (.int .i64 (av c.toNat:Nat))⟩),(8,⟨[],.v (.int .u8 ((if i=0 then dC c.toNat else 128:Nat):Int))⟩),(9,⟨[],.v (.int .u8 ((if i=0 then dD c.toNat else 191:Nat):Int))⟩),(10,⟨[],.v (.int .i64 ((i + 1:Nat):Int))⟩)],[],[]⟩/\i + 1<=av c.toNat/\allC c.toNat r i=true/\j=av c.toNat - (i + 1)) (av c.toNat - (0 + 1))
  ⟨[(0,⟨[],.v (.string (s.extract (aC:Int).toNat (s.size:Int).toNat))⟩),(7,⟨[],.v (.int .i64 (av c.toNat:Nat))⟩),(8,⟨[],.v (.int .u8 ((if 0=0 then dC c.toNat else 128:Nat):Int))⟩),(9,⟨[],.v (.int .u8 ((if 0=0 then dD c.toNat else 191:Nat):Int))⟩),(10,⟨[],.v (.int .i64 ((0 + 1:Nat):Int))⟩)],[],[]⟩ (weak_mk ⟨_,rfl⟩ wA rfl rfl rfl Di) ⟨0,rfl,by omega,rfl,by omega⟩ ?_
 rintro j st ⟨i,rfl,hi,ha,rfl⟩;refine br (fun hL=>?_) (fun hL=>?_)
 ·have aq:i + 1 < av c.toNat:=by have:=of_decide_eq_true hL;omega
  refine br (fun k=>?_) (fun k=>?_)
  ·have k:i < r.length:=by
    have:=k;have kb:(s.extract aC s.size).size=r.length + 1:=bI;simp [kb] at this;omega
   obtain ⟨b,hb⟩:∃ b,r[i]? = some b:=⟨_,gE k⟩;have Q9:=Gr i b hb;refine ⟨⟨by omega,by rw [bI];omega⟩,?_⟩
   have Ot:fc c.toNat i b.toNat=(decide ((if i=0 then dC c.toNat else 128)<=b.toNat) && decide (b.toNat<=(if i=0 then dD c.toNat else 191))):=by
    unfold fc;split<;>rfl
   have has:=Cb c.toNat r i;rw [ha,hb,Bool.true_and] at has;simp only [Ot] at has;have e:bU (s.extract (aC:Int).toNat (s.size:Int).toNat) (((i + 1:Nat):Int)).toNat=b.toNat:=Q9;refine br (fun k2=>?_) (fun k2=>?_)
   ·have k2:(if i=0 then dC c.toNat else 128)<=b.toNat:=by
     have k3:=k2;rw [e] at k3;generalize (if i=0 then dC c.toNat else 128)=lo at k3 ⊢;simp [ak] at k3;omega
    refine ⟨⟨by omega,by rw [bI];omega⟩,?_⟩;refine br (fun k4=>?_) (fun k4=>?_)
    ·have k4:¬ b.toNat<=(if i=0 then dD c.toNat else 191):=by
      have k3:=k4;rw [e] at k3;generalize (if i=0 then dD c.toNat else 191)=hi at k3 ⊢;simp [ak] at k3;omega
     have hf:=oA (c:=c.toNat) (r:=r) (k:=i) (n:=av c.toNat - 1) (by omega) (by rw [hb];simp only [Ot];simp [k4]);rw [hf,Bool.and_false] at hu;subst hu;exact ⟨.tup [.v (.int .i32 0),.v (.int .i64 ((i + 1:Nat):Int)),.v (.bool false)],ax,0,i + 1,rfl,fun h=>(by cases h),by omega⟩
    ·have k4:b.toNat<=(if i=0 then dD c.toNat else 191):=by
      have k3:=k4;rw [e] at k3;generalize (if i=0 then dD c.toNat else 191)=hi at k3 ⊢;simp [ak] at k3;omega
     rw [decide_eq_true k2,decide_eq_true k4] at has;exact ⟨⟨[(0,⟨[],.v (.string (s.extract (aC:Int).toNat (s.size:Int).toNat))⟩),(7,⟨[],.v (.int .i64 (av c.toNat:Nat))⟩),(8,⟨[],.v (.int .u8 ((if i + 1=0 then dC c.toNat else 128:Nat):Int))⟩),(9,⟨[],.v (.int .u8 ((if i + 1=0 then dD c.toNat else 191:Nat):Int))⟩),(10,⟨[],.v (.int .i64 ((i + 1 + 1:Nat):Int))⟩)],[],[]⟩,(weak_mk ⟨_,rfl⟩ wA rfl rfl rfl (wNB aq)),av c.toNat - (i + 1 + 1),by omega,i + 1,rfl,by omega,has,rfl⟩
   ·have k2:¬ (if i=0 then dC c.toNat else 128)<=b.toNat:=by
     have k3:=k2;rw [e] at k3;generalize (if i=0 then dC c.toNat else 128)=lo at k3 ⊢;simp [ak] at k3;omega
    have hf:=oA (c:=c.toNat) (r:=r) (k:=i) (n:=av c.toNat - 1) (by omega) (by rw [hb];simp only [Ot];simp [k2]);rw [hf,Bool.and_false] at hu;subst hu;exact ⟨.tup [.v (.int .i32 0),.v (.int .i64 ((i + 1:Nat):Int)),.v (.bool false)],ax,0,i + 1,rfl,fun h=>(by cases h),by omega⟩
  ·have k:r.length<=i:=by
    have:=k;have kb:(s.extract aC s.size).size=r.length + 1:=bI;simp [kb] at this;omega
   have hf:=oA (c:=c.toNat) (r:=r) (k:=i) (n:=av c.toNat - 1) (by omega) (by rw [List.getElem?_eq_none k]);rw [hf,Bool.and_false] at hu;subst hu;exact ⟨.tup [.v (.int .i32 0),.v (.int .i64 ((i + 1:Nat):Int)),.v (.bool false)],ax,0,i + 1,rfl,fun h=>(by cases h),by omega⟩
 ·have bJ:i + 1=av c.toNat:=by have:=of_decide_eq_false hL;omega
  have hu1:U=true:=by
   rw [hu,<- bJ];simp [ha]
  subst hu1
  have eV:av c.toNat<=r.length + 1:=by
   rcases Nat.lt_or_ge r.length (av c.toNat - 1) with h | h
   ·have hf:=oA (c:=c.toNat) (r:=r) (k:=r.length) (n:=av c.toNat - 1) h (by rw [List.getElem?_eq_none (Nat.le_refl _)]);rw [<- bJ,Nat.add_sub_cancel,ha] at hf;cases hf
   ·omega
  have hv:=hv (av c.toNat) (by omega) hn4 eV;refine ⟨⟨by omega,by omega,by rw [bI];omega⟩,?_⟩;refine bP NZ rfl hv ax (fun q hq=>?_);obtain ⟨z,rfl,hz⟩:=hq;rw [show tx ((s.extract (aC:Int).toNat (s.size:Int).toNat).extract 0 (av c.toNat))=(c :: r).take (av c.toNat) from by rw [<- hB,(by simp [tx]:∀ (B:ByteArray) k,tx (B.extract 0 k)=(tx B).take k)]] at hz;exact ⟨.tup [.v (.int .i32 z),.v (.int .i64 (av c.toNat:Nat)),.v (.bool true)],ax,z,av c.toNat,rfl,fun _=>⟨rfl,hz (rM rfl)⟩,by omega⟩
def recC (l:List UInt8) (e j:Nat):Int:=if j < e then ((l.getD j 0).toNat:Int) - 128 else 0
abbrev wG (l:List UInt8) (e:Nat):List DV:=[.v (.int .i64 (recC l e 0)),.v (.int .i64 (recC l e 1)),.v (.int .i64 (recC l e 2)),.v (.int .i64 (recC l e 3))]
abbrev Fy (s:ByteArray) (e:Nat):St:=⟨[(0,⟨[],.v (.string s)⟩),(3,⟨[],.loc 0 0⟩),(4,⟨[],.v (.int .i64 e)⟩)],[wG (tx s) e],[]⟩
theorem Fz (l:List UInt8) (e:Nat) (h:e < 4) (z:Int) (hz:z=((l.getD e 0).toNat:Int) - 128):(wG l e).set e (.v (.int .i64 z))=wG l (e + 1):=by
 subst hz;have c:e=0∨e=1∨e=2∨e=3:=by omega
 rcases c with rfl | rfl | rfl | rfl<;>simp [wG,recC]
theorem Ax {n m:Nat} {tk:List TkE} {l:List DV} {bs:List UInt8} {e:Nat} (h:l=wG bs e):WeL n m tk l (wG bs e):=by
 subst h;exact ⟨_,_,rfl,ai rfl,_,_,rfl,ai rfl,_,_,rfl,ai rfl,_,_,rfl,ai rfl,rfl⟩
theorem rec_1 (a:UInt8):IntKind.i64.wrap (((a.toNat:Int) - 128) + 128)=recV [a]:=by
 have ga:=a.toNat_lt;simp only [recV];rw [wrap64 (by omega) (by omega)];omega
theorem rec_2 (a b:UInt8):IntKind.i64.wrap (IntKind.i64.wrap (IntKind.i64.wrap (((a.toNat:Int) - 128) - 64) * 64) + ((b.toNat:Int) - 128))=recV [a,b]:=by
 have ga:=a.toNat_lt;have gb:=b.toNat_lt;simp only [recV];rw [wrap64 (n:=((a.toNat:Int) - 128) - 64) (by omega) (by omega),wrap64 (n:=_ * 64) (by omega) (by omega),wrap64 (by omega) (by omega)];omega
theorem rec_3 (a b c:UInt8):IntKind.i64.wrap (IntKind.i64.wrap (IntKind.i64.wrap (IntKind.i64.wrap (((a.toNat:Int) - 128) - 96) * 4096) + IntKind.i64.wrap (((b.toNat:Int) - 128) * 64)) + ((c.toNat:Int) - 128))=recV [a,b,c]:=by
 have ga:=a.toNat_lt;have gb:=b.toNat_lt;have gc:=c.toNat_lt;simp only [recV];rw [wrap64 (n:=((a.toNat:Int) - 128) - 96) (by omega) (by omega),wrap64 (n:=_ * 4096) (by omega) (by omega),wrap64 (n:=_ * 64) (by omega) (by omega),wrap64 (n:=_ + ((b.toNat:Int) - 128) * 64) (by omega) (by omega),wrap64 (by omega) (by omega)];omega
theorem rec_4 (a b c d:UInt8):IntKind.i64.wrap (IntKind.i64.wrap (IntKind.i64.wrap (IntKind.i64.wrap (IntKind.i64.wrap (((a.toNat:Int) - 128) - 112) * 262144) + IntKind.i64.wrap (((b.toNat:Int) - 128) * 4096)) + IntKind.i64.wrap (((c.toNat:Int) - 128) * 64)) + ((d.toNat:Int) - 128))=recV [a,b,c,d]:=by
 have ga:=a.toNat_lt;have gb:=b.toNat_lt;have gc:=c.toNat_lt;have gd:=d.toNat_lt;simp only [recV];rw [wrap64 (n:=((a.toNat:Int) - 128) - 112) (by omega) (by omega),wrap64 (n:=_ * 262144) (by omega) (by omega),wrap64 (n:=_ * 4096) (by omega) (by omega),wrap64 (n:=_ + ((b.toNat:Int) - 128) * 4096) (by omega) (by omega),wrap64 (n:=_ * 64) (by omega) (by omega),wrap64 (n:=_ + ((c.toNat:Int) - 128) * 64) (by omega) (by omega),wrap64 (by omega) (by omega)];omega
theorem kV (s:ByteArray) (h:1<=s.size/\s.size<=4):EvP Tryz.prog 224 [.v (.string s)] (.v (.int .i64 (recV (tx s)))):=by
 have ic:=bc s;refine ev_go (P:=Tryz.prog) tt tt_ok 5000 63 [.tmp 2] Tryz.func224 rfl Tryz.ntmps224 rfl (nL rfl) (fun E9 w9 hn9 hm9=>?_);refine aw (fun j st=>∃ e:Nat,st=Fy s e/\e<=s.size/\j=s.size - e) s.size (Fy s 0) (aH 1 rfl (by repeat' (first | exact rfl | exact ai rfl | exact ai rfl | refine ⟨_,_,rfl,?_,?_⟩)) rfl rfl rfl (by repeat' (first | exact trivial | exact ai rfl | exact ai rfl | refine ⟨⟨_,rfl,?_⟩,?_⟩))) ⟨0,rfl,by omega,by omega⟩ ?_;rintro j st ⟨e,rfl,he,rfl⟩;refine br (fun hL=>?_) (fun hL=>?_)
 ·have aq:e < s.size:=by have:=of_decide_eq_true hL;omega
  refine ⟨⟨by omega,by omega⟩,?_⟩;refine ⟨⟨by omega,by omega⟩,?_⟩;have hb:bU s e=((tx s).getD e 0).toNat:=rfl
  have hz:IntKind.i64.wrap (IntKind.i64.wrap (bU s ((e:Int).toNat):Nat) - 128)=(((tx s).getD e 0).toNat:Int) - 128:=by
   have h1:=((tx s).getD e 0).toNat_lt;have h2:bU s ((e:Int).toNat)=((tx s).getD e 0).toNat:=rfl;rw [h2,wrap64 (n:=(((tx s).getD e 0).toNat:Int)) (by omega) (by omega)];exact wrap64 (by omega) (by omega)
  have bE:(wG (tx s) e).set (0 + (e:Int).toNat * 1) (.v (.int .i64 (IntKind.i64.wrap (IntKind.i64.wrap (bU s ((e:Int).toNat):Nat) - 128))))=wG (tx s) (e + 1):=by
   rw [show 0 + (e:Int).toNat * 1=e by omega];exact Fz _ _ (by omega) _ hz
  refine ⟨by simp;omega,?_⟩;exact ⟨Fy s (e + 1),(aH 1 rfl (by repeat' (first | exact rfl | exact ai rfl | exact Ax bE | exact aj (ej aq (by omega)) | refine ⟨_,_,rfl,?_,?_⟩)) rfl rfl rfl (by repeat' (first | exact trivial | exact ai rfl | exact Ax bE | exact aj (ej aq (by omega)) | refine ⟨⟨_,rfl,?_⟩,?_⟩))),s.size - (e + 1),by omega,e + 1,rfl,by omega,rfl⟩
 ·have bJ:e=s.size:=by have:=of_decide_eq_false hL;omega
  subst bJ;refine br (fun cn=>?_) (fun cn=>?_)
  ·have cn:s.size=1:=by have:=of_decide_eq_true cn;omega
   obtain ⟨a,hl⟩:∃ a,tx s=[a]:=by
    rw [cn] at ic
    match tx s,ic with
    | [a],_=>exact ⟨a,rfl⟩
   have ha:recC (tx s) s.size 0=(a.toNat:Int) - 128:=by rw [hl,cn];all_goals rfl
   have ga:=a.toNat_lt;refine ⟨⟨by omega,by omega⟩,?_⟩;refine (congrArg (fun z=>DV.v (.int .i64 z)) ?_:_=_);rw [ha,hl];exact rec_1 a
  have c1:¬ s.size=1:=by have:=of_decide_eq_false cn;omega
  refine br (fun cn=>?_) (fun cn=>?_)
  ·have cn:s.size=2:=by have:=of_decide_eq_true cn;omega
   obtain ⟨a,b,hl⟩:∃ a b,tx s=[a,b]:=by
    rw [cn] at ic
    match tx s,ic with
    | [a,b],_=>exact ⟨a,b,rfl⟩
   have ha:recC (tx s) s.size 0=(a.toNat:Int) - 128:=by rw [hl,cn];all_goals rfl
   have ga:=a.toNat_lt;have hb:recC (tx s) s.size 1=(b.toNat:Int) - 128:=by rw [hl,cn];all_goals rfl
   have gb:=b.toNat_lt;refine ⟨⟨by omega,by omega⟩,?_⟩;refine ⟨⟨by omega,by omega⟩,?_⟩;refine (congrArg (fun z=>DV.v (.int .i64 z)) ?_:_=_);rw [ha,hb,hl];exact rec_2 a b
  have c2:¬ s.size=2:=by have:=of_decide_eq_false cn;omega
  refine br (fun cn=>?_) (fun cn=>?_)
  ·have cn:s.size=3:=by have:=of_decide_eq_true cn;omega
   obtain ⟨a,b,c,hl⟩:∃ a b c,tx s=[a,b,c]:=by
    rw [cn] at ic
    match tx s,ic with
    | [a,b,c],_=>exact ⟨a,b,c,rfl⟩
   have ha:recC (tx s) s.size 0=(a.toNat:Int) - 128:=by rw [hl,cn];all_goals rfl
   have ga:=a.toNat_lt;have hb:recC (tx s) s.size 1=(b.toNat:Int) - 128:=by rw [hl,cn];all_goals rfl
   have gb:=b.toNat_lt;have hc:recC (tx s) s.size 2=(c.toNat:Int) - 128:=by rw [hl,cn];all_goals rfl
   have gc:=c.toNat_lt;refine ⟨⟨by omega,by omega⟩,?_⟩;refine ⟨⟨by omega,by omega⟩,?_⟩;refine ⟨⟨by omega,by omega⟩,?_⟩;refine (congrArg (fun z=>DV.v (.int .i64 z)) ?_:_=_);rw [ha,hb,hc,hl];exact rec_3 a b c
  have c3:¬ s.size=3:=by have:=of_decide_eq_false cn;omega
  have cn:s.size=4:=by omega
  obtain ⟨a,b,c,d,hl⟩:∃ a b c d,tx s=[a,b,c,d]:=by
   rw [cn] at ic
   match tx s,ic with
   | [a,b,c,d],_=>exact ⟨a,b,c,d,rfl⟩
  have ha:recC (tx s) s.size 0=(a.toNat:Int) - 128:=by rw [hl,cn];all_goals rfl
  have ga:=a.toNat_lt;have hb:recC (tx s) s.size 1=(b.toNat:Int) - 128:=by rw [hl,cn];all_goals rfl
  have gb:=b.toNat_lt;have hc:recC (tx s) s.size 2=(c.toNat:Int) - 128:=by rw [hl,cn];all_goals rfl
  have gc:=c.toNat_lt;have hd:recC (tx s) s.size 3=(d.toNat:Int) - 128:=by rw [hl,cn];all_goals rfl
  have gd:=d.toNat_lt;refine ⟨⟨by omega,by omega⟩,?_⟩;refine ⟨⟨by omega,by omega⟩,?_⟩;refine ⟨⟨by omega,by omega⟩,?_⟩;refine ⟨⟨by omega,by omega⟩,?_⟩;refine (congrArg (fun z=>DV.v (.int .i64 z)) ?_:_=_);rw [ha,hb,hc,hd,hl];exact rec_4 a b c d
def fW (z:Int):Bool:=decide (0<=z) && decide (z<=1114111) && (decide (z < 55296) || decide (57343 < z))
theorem nO (z:Int):EvP Tryz.prog 225 [.v (.int .i32 z)] (.v (.bool (fW z))):=by
 refine ev_go (P:=Tryz.prog) tt tt_ok 5000 17 [.tmp 2] Tryz.func225 rfl Tryz.ntmps225 rfl (nL rfl) (fun E9 w9 hn9 hm9=>?_);refine (congrArg (fun b=>DV.v (.bool b)) ?_:_=_);simp only [pickB_and,ak,fW]
def q6 (n:Nat):List UInt8:=
 if n < 128 then [UInt8.ofNat n] else if n < 2048 then [UInt8.ofNat (192 + n / 64),UInt8.ofNat (128 + n % 64)]
 else if n < 65536 then [UInt8.ofNat (224 + n / 4096),UInt8.ofNat (128 + n / 64 % 64),UInt8.ofNat (128 + n % 64)]
 else [UInt8.ofNat (240 + n / 262144),UInt8.ofNat (128 + n / 4096 % 64),UInt8.ofNat (128 + n / 64 % 64),UInt8.ofNat (128 + n % 64)]
def wH (z:Int):List UInt8:=if fW z=true then q6 z.toNat else []
theorem b8 {x:Int} {k:Nat} (hx:x=k) (hk:k < 256):IntKind.u8.wrap x=((UInt8.ofNat k).toNat:Int):=by
 rw [hx,UInt8.toNat_ofNat',IntKind.wrap_u8'];omega
theorem Ly {n k:Nat} (hn:n<=1114111):IntKind.i64.wrap ((n:Int).tdiv (k:Int))=((n / k:Nat):Int):=by
 rw [Int.tdiv_eq_ediv_of_nonneg (by omega),<- Int.natCast_ediv];have:=Nat.div_le_self n k;generalize n / k=q at this ⊢;exact wrap64 (by omega) (by omega)
theorem FA {n:Nat} (hn:n<=1114111):IntKind.i64.wrap ((n:Int).tdiv 64)=((n / 64:Nat):Int):=Ly hn
theorem Ay {n:Nat} (hn:n<=1114111):IntKind.i64.wrap ((n:Int).tdiv 4096)=((n / 4096:Nat):Int):=Ly hn
theorem Cd {n:Nat} (hn:n<=1114111):IntKind.i64.wrap ((n:Int).tdiv 262144)=((n / 262144:Nat):Int):=Ly hn
theorem Ce (n:Nat):(n:Int).tmod 64=((n % 64:Nat):Int):=by
 rw [Int.tmod_eq_emod_of_nonneg (by omega)];omega
theorem qB (z:Int):EvP Tryz.prog 226 [.v (.int .i32 z)] (.v (.string (ba (wH z)))):=by
 have hs:=nO z;have hE:wH z=if fW z=true then q6 z.toNat else []:=rfl
 have hB:fW z=(decide (0<=z) && decide (z<=1114111) && (decide (z < 55296) || decide (57343 < z))):=rfl;generalize wH z=E at hE ⊢;generalize fW z=B at hs hE hB;refine ev_go (P:=Tryz.prog) tt tt_ok 5000 64 [.tmp 2] Tryz.func226 rfl Tryz.ntmps226 rfl (nL rfl) (fun E9 w9 hn9 hm9=>?_);refine call_p I9 (hs) ax rfl ?_
 cases B with
 | false=>
  rw [if_neg (by simp)] at hE;subst hE;exact (rfl:_=_)
 | true=>
  rw [if_pos rfl] at hE;have hB:=hB.symm;simp at hB;obtain ⟨n,rfl⟩:∃ n:Nat,z=n:=⟨z.toNat,by omega⟩;rw [Int.toNat_natCast] at hE;have hn:n<=1114111:=by omega
  have gI:IntKind.i64.wrap (n:Int)=n:=wrap64 (by omega) (by omega);unfold q6 at hE;refine br (fun c=>?_) (fun c=>?_)
  ·have c:n < 128:=by have:=of_decide_eq_true c;omega
   rw [if_pos c] at hE;refine ⟨[UInt8.ofNat (n)],?_,?_⟩
   ·simp only [List.flatten_cons,List.flatten_nil,List.append_nil,List.cons_append,List.nil_append,u8L,List.cons.injEq,and_true,DV.v.injEq,Value.int.injEq,true_and]
    ·exact b8 gI (by omega)
   ·rw [hE];exact (rfl:_=_)
  have c1:¬ n < 128:=by have:=of_decide_eq_false c;omega
  rw [if_neg c1] at hE;refine br (fun c=>?_) (fun c=>?_)
  ·have c:n < 2048:=by have:=of_decide_eq_true c;omega
   rw [if_pos c] at hE;refine ⟨⟨rfl,by decide⟩,?_⟩;refine ⟨⟨rfl,by decide⟩,?_⟩;refine ⟨[UInt8.ofNat (192 + n / 64),UInt8.ofNat (128 + n % 64)],?_,?_⟩
   ·simp only [List.flatten_cons,List.flatten_nil,List.append_nil,List.cons_append,List.nil_append,u8L,List.cons.injEq,and_true,DV.v.injEq,Value.int.injEq,true_and];refine ⟨?_,?_⟩
    ·exact b8 (by rw [gI,FA hn];exact wrap64 (by omega) (by omega)) (by omega)
    ·exact b8 (by rw [gI,Ce];exact wrap64 (by omega) (by omega)) (by omega)
   ·rw [hE];exact (rfl:_=_)
  have c2:¬ n < 2048:=by have:=of_decide_eq_false c;omega
  rw [if_neg c2] at hE;refine br (fun c=>?_) (fun c=>?_)
  ·have c:n < 65536:=by have:=of_decide_eq_true c;omega
   rw [if_pos c] at hE;refine ⟨⟨rfl,by decide⟩,?_⟩;refine ⟨⟨rfl,by decide⟩,?_⟩;refine ⟨⟨rfl,by decide⟩,?_⟩;refine ⟨⟨rfl,by decide⟩,?_⟩;refine ⟨[UInt8.ofNat (224 + n / 4096),UInt8.ofNat (128 + n / 64 % 64),UInt8.ofNat (128 + n % 64)],?_,?_⟩
   ·simp only [List.flatten_cons,List.flatten_nil,List.append_nil,List.cons_append,List.nil_append,u8L,List.cons.injEq,and_true,DV.v.injEq,Value.int.injEq,true_and];refine ⟨?_,?_,?_⟩
    ·exact b8 (by rw [gI,Ay hn];exact wrap64 (by omega) (by omega)) (by omega)
    ·exact b8 (by rw [gI,FA hn,Ce];exact wrap64 (by omega) (by omega)) (by omega)
    ·exact b8 (by rw [gI,Ce];exact wrap64 (by omega) (by omega)) (by omega)
   ·rw [hE];exact (rfl:_=_)
  have c3:¬ n < 65536:=by have:=of_decide_eq_false c;omega
  rw [if_neg c3] at hE;refine ⟨⟨rfl,by decide⟩,?_⟩;refine ⟨⟨rfl,by decide⟩,?_⟩;refine ⟨⟨rfl,by decide⟩,?_⟩;refine ⟨⟨rfl,by decide⟩,?_⟩;refine ⟨⟨rfl,by decide⟩,?_⟩;refine ⟨⟨rfl,by decide⟩,?_⟩;refine ⟨[UInt8.ofNat (240 + n / 262144),UInt8.ofNat (128 + n / 4096 % 64),UInt8.ofNat (128 + n / 64 % 64),UInt8.ofNat (128 + n % 64)],?_,?_⟩
  ·simp only [List.flatten_cons,List.flatten_nil,List.append_nil,List.cons_append,List.nil_append,u8L,List.cons.injEq,and_true,DV.v.injEq,Value.int.injEq,true_and];refine ⟨?_,?_,?_,?_⟩
   ·exact b8 (by rw [gI,Cd hn];exact wrap64 (by omega) (by omega)) (by omega)
   ·exact b8 (by rw [gI,Ay hn,Ce];exact wrap64 (by omega) (by omega)) (by omega)
   ·exact b8 (by rw [gI,FA hn,Ce];exact wrap64 (by omega) (by omega)) (by omega)
   ·exact b8 (by rw [gI,Ce];exact wrap64 (by omega) (by omega)) (by omega)
  ·rw [hE];exact (rfl:_=_)
theorem mb (c:UInt8) (r:List UInt8):ja (c :: r)=(decide (1<=av c.toNat) && allC c.toNat r (av c.toNat - 1)):=rfl
def JI (l:List UInt8):Bool:=fW (recV l) && decide (wH (recV l)=l)
theorem ee {k:Nat} {a:UInt8} (hk:k < 256):UInt8.ofNat k=a↔k=a.toNat:=by
 constructor
 ·rintro rfl;rw [UInt8.toNat_ofNat'];omega
 ·rintro rfl;exact UInt8.ofNat_toNat
theorem mc (l:List UInt8) {v:Int} (hv:recV l=v):JI l=true↔(0<=v/\v<=1114111/\(v < 55296∨57343 < v))/\q6 v.toNat=l:=by
 subst hv;unfold JI wH;constructor
 ·intro h;rw [Bool.and_eq_true] at h;have h1:=h.1;have h2:=of_decide_eq_true h.2;rw [if_pos h1] at h2;simp [fW] at h1;exact ⟨by omega,h2⟩
 ·intro ⟨h1,h2⟩;have h3:fW (recV l)=true:=by simp [fW];omega
  rw [h3,if_pos rfl];simp [h2]
theorem gY (c:Nat):(c=224/\dC c=160)∨(c=240/\dC c=144)∨(c≠224/\c≠240/\dC c=128):=by
 unfold dC
 repeat' split
 all_goals omega
theorem gZ (c:Nat):(c=237/\dD c=159)∨(c=244/\dD c=143)∨(c≠237/\c≠244/\dD c=191):=by
 unfold dD
 repeat' split
 all_goals omega
theorem contB_0 (c b:Nat):fc c 0 b=true↔dC c<=b/\b<=dD c:=by
 unfold fc;rw [if_pos rfl,Bool.and_eq_true,decide_eq_true_iff,decide_eq_true_iff]
theorem j5 (c k b:Nat):fc c (k + 1) b=true↔128<=b/\b<=191:=by
 unfold fc;rw [if_neg (Nat.succ_ne_zero k),Bool.and_eq_true,decide_eq_true_iff,decide_eq_true_iff]
theorem allC_1 (c:Nat) (b:UInt8) (r:List UInt8):allC c (b :: r) 1=fc c 0 b.toNat:=by simp [allC,List.range_succ]
theorem allC_2 (c:Nat) (b d:UInt8) (r:List UInt8):allC c (b :: d :: r) 2=(fc c 0 b.toNat && fc c 1 d.toNat):=by simp [allC,List.range_succ]
theorem allC_3 (c:Nat) (b d e:UInt8) (r:List UInt8):allC c (b :: d :: e :: r) 3=(fc c 0 b.toNat && fc c 1 d.toNat && fc c 2 e.toNat):=by simp [allC,List.range_succ,Bool.and_assoc]
theorem lead_1 (a:Nat):av a=1↔a < 128:=by
 unfold av;repeat' split
 all_goals omega
theorem lead_2 (a:Nat):av a=2↔194<=a/\a<=223:=by
 unfold av;repeat' split
 all_goals omega
theorem lead_3 (a:Nat):av a=3↔224<=a/\a<=239:=by
 unfold av;repeat' split
 all_goals omega
theorem lead_4 (a:Nat):av a=4↔240<=a/\a<=244:=by
 unfold av;repeat' split
 all_goals omega
theorem wf_1 (a:UInt8) (r:List UInt8):JI [a]=true↔ja (a :: r)=true/\av a.toNat=1:=by
 have ha:=a.toNat_lt;rw [mc _ (v:=(a.toNat:Int)) rfl];rw [Int.toNat_natCast];unfold q6;rw [mb];constructor
 ·intro ⟨h1,h2⟩
  have:a.toNat < 128:=by
   by_cases c:a.toNat < 128
   ·exact c
   ·rw [if_neg c] at h2
    repeat' split at h2
    all_goals (simp at h2)
  have:=(lead_1 _).2 this;rw [this];exact ⟨rfl,rfl⟩
 ·intro ⟨_,h2⟩;have h2:=(lead_1 _).1 h2;rw [if_pos h2];exact ⟨by omega,by rw [UInt8.ofNat_toNat]⟩
theorem wf_2 (a b:UInt8) (r:List UInt8):JI [a,b]=true↔ja (a :: b :: r)=true/\av a.toNat=2:=by
 have ha:=a.toNat_lt;have hb:=b.toNat_lt;rw [mc _ (v:=((a.toNat:Int) - 192) * 64 + ((b.toNat:Int) - 128)) rfl];unfold q6;rw [mb];constructor
 ·intro ⟨h1,h2⟩;generalize hn:((((a.toNat:Int) - 192) * 64 + ((b.toNat:Int) - 128))).toNat=n at h2
  repeat' split at h2
  any_goals (simp at h2;done)
  simp only [List.cons.injEq,and_true] at h2;rw [ee (by omega),ee (by omega)] at h2;have:=(lead_2 a.toNat).2 (by omega);rw [this];refine ⟨?_,rfl⟩;show (true && allC _ _ 1)=true;rw [Bool.true_and,allC_1,contB_0];have hL:=gY a.toNat;have hH:=gZ a.toNat;omega
 ·intro ⟨h1,h2⟩;rw [h2] at h1;have h1:(true && allC _ _ 1)=true:=h1;rw [Bool.true_and,allC_1,contB_0] at h1;have hL:=gY a.toNat;have hH:=gZ a.toNat;have h2:=(lead_2 _).1 h2;rw [if_neg (by omega),if_pos (by omega)];simp only [List.cons.injEq,and_true];rw [ee (by omega),ee (by omega)];omega
theorem wf_3 (a b c:UInt8) (r:List UInt8):JI [a,b,c]=true↔ja (a :: b :: c :: r)=true/\av a.toNat=3:=by
 have ha:=a.toNat_lt;have hb:=b.toNat_lt;have hc:=c.toNat_lt;rw [mc _ (v:=((a.toNat:Int) - 224) * 4096 + ((b.toNat:Int) - 128) * 64 + ((c.toNat:Int) - 128)) rfl];unfold q6;rw [mb];constructor
 ·intro ⟨h1,h2⟩;generalize hn:((((a.toNat:Int) - 224) * 4096 + ((b.toNat:Int) - 128) * 64 + ((c.toNat:Int) - 128))).toNat=n at h2
  repeat' split at h2
  any_goals (simp at h2;done)
  simp only [List.cons.injEq,and_true] at h2;rw [ee (by omega),ee (by omega),ee (by omega)] at h2;have:=(lead_3 a.toNat).2 (by omega);rw [this];refine ⟨?_,rfl⟩;show (true && allC _ _ 2)=true;rw [Bool.true_and,allC_2,Bool.and_eq_true,contB_0,j5 _ 0];have hL:=gY a.toNat;have hH:=gZ a.toNat;omega
 ·intro ⟨h1,h2⟩;rw [h2] at h1;have h1:(true && allC _ _ 2)=true:=h1;rw [Bool.true_and,allC_2,Bool.and_eq_true,contB_0,j5 _ 0] at h1;have hL:=gY a.toNat;have hH:=gZ a.toNat;have h2:=(lead_3 _).1 h2;rw [if_neg (by omega),if_neg (by omega),if_pos (by omega)];simp only [List.cons.injEq,and_true];rw [ee (by omega),ee (by omega),ee (by omega)];omega
theorem wf_4 (a b c d:UInt8) (r:List UInt8):JI [a,b,c,d]=true↔ja (a :: b :: c :: d :: r)=true/\av a.toNat=4:=by
 have ha:=a.toNat_lt;have hb:=b.toNat_lt;have hc:=c.toNat_lt;have hd:=d.toNat_lt;rw [mc _ (v:=((a.toNat:Int) - 240) * 262144 + ((b.toNat:Int) - 128) * 4096 + ((c.toNat:Int) - 128) * 64 + ((d.toNat:Int) - 128)) rfl];unfold q6;rw [mb];constructor
 ·intro ⟨h1,h2⟩;generalize hn:((((a.toNat:Int) - 240) * 262144 + ((b.toNat:Int) - 128) * 4096 + ((c.toNat:Int) - 128) * 64 + ((d.toNat:Int) - 128))).toNat=n at h2
  repeat' split at h2
  any_goals (simp at h2;done)
  simp only [List.cons.injEq,and_true] at h2;rw [ee (by omega),ee (by omega),ee (by omega),ee (by omega)] at h2;have:=(lead_4 a.toNat).2 (by omega);rw [this];refine ⟨?_,rfl⟩;show (true && allC _ _ 3)=true;rw [Bool.true_and,allC_3,Bool.and_eq_true,Bool.and_eq_true,contB_0,j5 _ 0,j5 _ 1];have hL:=gY a.toNat;have hH:=gZ a.toNat;omega
 ·intro ⟨h1,h2⟩;rw [h2] at h1;have h1:(true && allC _ _ 3)=true:=h1;rw [Bool.true_and,allC_3,Bool.and_eq_true,Bool.and_eq_true,contB_0,j5 _ 0,j5 _ 1] at h1;have hL:=gY a.toNat;have hH:=gZ a.toNat;have h2:=(lead_4 _).1 h2;rw [if_neg (by omega),if_neg (by omega),if_neg (by omega)];simp only [List.cons.injEq,and_true];rw [ee (by omega),ee (by omega),ee (by omega),ee (by omega)];omega
theorem tT (a:Nat):av a<=4:=by
 unfold av;repeat' split
 all_goals omega
theorem j6 {l:List UInt8} (h:ja l=true):∃ c r,l=c :: r/\1<=av c.toNat/\av c.toNat<=l.length/\jG l=av c.toNat:=by
 cases l with
 | nil=>cases h
 | cons c r=>
  refine ⟨c,r,rfl,?_,?_,?_⟩
  ·unfold ja at h;rw [Bool.and_eq_true] at h;exact of_decide_eq_true h.1
  ·have h0:=h;unfold ja at h;rw [Bool.and_eq_true] at h;rcases Nat.lt_or_ge r.length (av c.toNat - 1) with g | g
   ·have h2:=h.2;unfold allC at h2;rw [List.all_eq_true] at h2;have:=h2 r.length (List.mem_range.2 g);rw [List.getElem?_eq_none (Nat.le_refl _)] at this;cases this
   ·rw [List.length_cons];omega
  ·show (if _ then _ else _)=_;rw [if_pos h]
theorem PM (c:UInt8) (r:List UInt8) (n:Nat) (h1:1<=n) (h4:n<=4) (hl:n<=r.length + 1):JI ((c :: r).take n)=(ja (c :: r) && decide (av c.toNat=n)):=by
 apply Bool.eq_iff_iff.2;rw [Bool.and_eq_true,decide_eq_true_iff]
 match n,h1,h4,hl with
 | 1,_,_,_=>exact wf_1 c r
 | 2,_,_,h=>match r,h with
  | b :: r,_=>exact wf_2 c b r
 | 3,_,_,h=>match r,h with
  | b :: d :: r,_=>exact wf_3 c b d r
 | 4,_,_,h=>match r,h with
  | b :: d :: e :: r,_=>exact wf_4 c b d e r
theorem oB {l:List UInt8} (h:l ≠ []):1<=jG l/\jG l<=l.length:=by
 cases l with
 | nil=>exact absurd rfl h
 | cons c r=>
  show 1<=(if _ then _ else _)/\(if _ then _ else _)<=_;split
  ·rename_i g;obtain ⟨c',r',e,h1,h2,h3⟩:=j6 g;cases e;exact ⟨h1,h2⟩
  ·exact ⟨Nat.le_refl _,by rw [List.length_cons];omega⟩
def headL:Nat->List UInt8->List UInt8
 | 0,_=>[]
 | u + 1,l=>l.take (jG l) ++ headL u (l.drop (jG l))
theorem Cf (u:Nat):headL u []=[]:=by
 induction u with
 | zero=>rfl
 | succ u ih=>show [].take _ ++ headL u ([].drop _)=[];rw [List.take_nil,List.drop_nil,ih];all_goals rfl
theorem kv (n:Int) (p:ByteArray):Ev Tryz.prog 268 [.v (.int .i64 n),.v (.string p)] [] [] (fun d _ _=>∃ b:Bool,d = .v (.bool b)):=by
 have hc:=qB (IntKind.i32.wrap n);refine ev_go (P:=Tryz.prog) tt tt_ok 5000 22 [.tmp 4] Tryz.func268 rfl Tryz.ntmps268 rfl (nL rfl) (fun E9 w9 hn9 hm9=>?_);refine call_p Ja (hc) ax rfl ?_;refine br (fun c=>?_) (fun c=>?_)
 ·refine ⟨⟨by omega,by omega,by simp at c;omega⟩,?_⟩;exact ⟨_,rfl⟩
 ·exact ⟨_,rfl⟩
abbrev lf01St (p a z:ByteArray) (e:Nat):St:=⟨[(0,⟨[],.v (.string p)⟩),(3,⟨[],.v (.string a)⟩),(4,⟨[],.v (.string z)⟩),(5,⟨[],.v (.int .i64 e)⟩)],[],[]⟩
theorem size_app (a b:ByteArray):(a ++ b).size=a.size + b.size:=by rw [<- bc,KW,List.length_append,bc,bc]
theorem wI (p:ByteArray) (hp:1<=p.size/\p.size<=3):Ev Tryz.prog 227 [.v (.string p)] [] [] (fun d _ _=>∃ b:Bool,d = .v (.bool b)):=by
 refine ev_go (P:=Tryz.prog) tt tt_ok 5000 40 [.tmp 2] Tryz.func227 rfl Tryz.ntmps227 rfl (nL rfl) (fun E9 w9 hn9 hm9=>?_);refine aw (fun j st=>∃ (e:Nat) (a z:ByteArray),st=lf01St p a z e/\e<=4/\p.size<=a.size/\a.size<=4/\z.size=a.size/\j=4 - e) 4 (lf01St p p p 0) (weak_mk ⟨_,rfl⟩ wA rfl rfl rfl Di) ⟨0,p,p,rfl,by omega,by omega,by omega,rfl,by omega⟩ ?_;rintro j st ⟨e,a,z,rfl,he,ha,ha4,hz,rfl⟩;have hra:=kV a (by omega);have hrz:=kV z (by omega);have hba:=kv (recV (tx a)) p;have hbz:=kv (recV (tx z)) p;refine br (fun hL=>?_) (fun hL=>?_)
 rotate_left
 ·exact ⟨_,rfl⟩
 have aq:e < 4:=by have:=of_decide_eq_true hL;omega
 have gV:∀ (a' z':ByteArray),p.size<=a'.size->a'.size<=4->z'.size=a'.size->∃ j',j' < 4 - e/\∃ (e':Nat) (QJ UJ:ByteArray),lf01St p a' z' (e + 1)=lf01St p QJ UJ e' /\ e' <= 4/\p.size<=QJ.size/\QJ.size<=4/\UJ.size=QJ.size/\j'=4 - e':=fun a' z' h1 h2 h3=>⟨4 - (e + 1),by omega,e + 1,a',z',rfl,by omega,h1,h2,h3,rfl⟩;refine br (fun c=>?_) (fun c=>?_)
 ·refine call_p DJ (hra) ax rfl ?_;refine bP Je rfl hba ax (fun q hq=>?_);obtain ⟨b1,rfl⟩:=hq
  cases b1 with
  | true=>
   exact ⟨_,rfl⟩
  | false=>
   refine call_p DJ (hrz) ax rfl ?_;refine bP Je rfl hbz ax (fun q hq=>?_);obtain ⟨b2,rfl⟩:=hq
   cases b2 with
   | true=>
     exact ⟨_,rfl⟩
   | false=>
    refine br (fun g=>?_) (fun g=>?_)
    ·refine ⟨[128],rfl,?_⟩;refine ⟨by show a.size + 1<=_;omega,?_⟩;refine ⟨[191],rfl,?_⟩;refine ⟨by show z.size + 1<=_;omega,?_⟩;obtain ⟨j',h1,h2⟩:=gV (a ++ ba [128]) (z ++ ba [191]) (by rw [size_app];omega) (by rw [size_app];have:=of_decide_eq_true g;show _ + 1<=4;omega) (by rw [size_app,size_app,hz];rfl);exact ⟨lf01St p (a ++ ba [128]) (z ++ ba [191]) (e + 1),(weak_mk ⟨_,rfl⟩ wA rfl rfl rfl (wNB aq)),j',h1,h2⟩
    ·obtain ⟨j',h1,h2⟩:=gV a z ha ha4 hz;exact ⟨lf01St p a z (e + 1),(weak_mk ⟨_,rfl⟩ wA rfl rfl rfl (wNB aq)),j',h1,h2⟩
 ·refine br (fun g=>?_) (fun g=>?_)
  ·refine ⟨[128],rfl,?_⟩;refine ⟨by show a.size + 1<=_;omega,?_⟩;refine ⟨[191],rfl,?_⟩;refine ⟨by show z.size + 1<=_;omega,?_⟩;obtain ⟨j',h1,h2⟩:=gV (a ++ ba [128]) (z ++ ba [191]) (by rw [size_app];omega) (by rw [size_app];have:=of_decide_eq_true g;show _ + 1<=4;omega) (by rw [size_app,size_app,hz];rfl);exact ⟨lf01St p (a ++ ba [128]) (z ++ ba [191]) (e + 1),(weak_mk ⟨_,rfl⟩ wA rfl rfl rfl (wNB aq)),j',h1,h2⟩
  ·obtain ⟨j',h1,h2⟩:=gV a z ha ha4 hz;exact ⟨lf01St p a z (e + 1),(weak_mk ⟨_,rfl⟩ wA rfl rfl rfl (wNB aq)),j',h1,h2⟩
theorem wrap32 {n:Int} (h1 : -2147483648<=n) (h2:n<=2147483647):IntKind.i32.wrap n=n:=by
 simp [IntKind.wrap,IntKind.min,IntKind.max,IntKind.signed,IntKind.bits];omega
abbrev ng (s:ByteArray) (e:Nat):St:=⟨[(0,⟨[],.v (.string s)⟩),(7,⟨[],.v (.int .i64 ((e + 1:Nat):Int))⟩)],[],[]⟩
abbrev tU (s:ByteArray) (m:Int) (e:Nat):St:=⟨[(0,⟨[],.v (.string s)⟩),(9,⟨[],.v (.int .i64 m)⟩),(10,⟨[],.v (.int .i64 ((e + 2:Nat):Int))⟩)],[],[]⟩
theorem FB (l:List UInt8) : -2147483648<=recV l/\recV l<=2147483647:=by
 have hb:=fun x:UInt8=>x.toNat_lt
 match l with
 | []=>simp [recV]
 | [a]=>have:=hb a;simp only [recV];omega
 | [a,b]=>have:=hb a;have:=hb b;simp only [recV];omega
 | [a,b,c]=>have:=hb a;have:=hb b;have:=hb c;simp only [recV];omega
 | [a,b,c,d]=>have:=hb a;have:=hb b;have:=hb c;have:=hb d;simp only [recV];omega
 | _ :: _ :: _ :: _ :: _ :: _=>simp [recV]
theorem Az (s:ByteArray) (n:Nat):tx (s.extract 0 n)=(tx s).take n:=by simp [tx]
theorem FC {s:ByteArray} {l:List UInt8} {k:Nat} (hB:tx s=l):s.extract 0 k=ba (l.take k):=pF (by rw [Az,hB])
theorem FD {a b:List UInt8}:ba a=ba b↔a=b:=⟨fun h=>by have:=congrArg tx h;rwa [rS,rS] at this,fun h=>by rw [h]⟩
theorem yW (s:ByteArray) (aC:Nat) (hs:s.size<=1099511627776) (c:UInt8) (r:List UInt8) (h:(tx s).drop aC=c :: r) :
  Ev Tryz.prog 187 [.v (.string s),.v (.int .i64 aC)] [] [] (fun d _ _=>∃ (z:Int) (n:Int),d = .tup [.v (.int .i32 z),.v (.int .i64 n),.v (.bool (ja (c :: r)))]/\(ja (c :: r)=true->n=av c.toNat/\z=recV ((c :: r).take (av c.toNat))/\fW z=true)):=by
 have hlen:aC < s.size:=by
  have:=congrArg List.length h;rw [List.length_drop,bc] at this;simp at this;omega
 have hB:tx (s.extract (aC:Int).toNat (s.size:Int).toNat)=c :: r:=by
  rw [<- h];simp [tx,Int.toNat_natCast];exact List.take_of_length_le (by rw [List.length_drop];have:=bc s;unfold tx at this;omega)
 have bI:(s.extract (aC:Int).toNat (s.size:Int).toNat).size=r.length + 1:=by rw [<- bc,hB];all_goals rfl
 have hwf:=fun n=>PM c r n;have cj:=fun (h:ja (c :: r)=true)=>j6 h;refine ev_go (P:=Tryz.prog) tt tt_ok 5000 65 [.tmp 4,.tmp 5,.tmp 6] Tryz.func187 rfl Tryz.ntmps187 rfl (nL rfl) (fun E9 w9 hn9 hm9=>?_);refine br (fun c=>absurd c (by simp [ak];omega)) (fun _=>?_);refine ⟨⟨by omega,by omega,by omega⟩,?_⟩;generalize s.extract (aC:Int).toNat (s.size:Int).toNat=b at hB bI ⊢;refine aw (fun j st=>∃ e:Nat,st=ng b e/\e<=4/\(ja (c :: r)=true->e < av c.toNat)/\j=4 - e) 4 (ng b 0) (weak_mk ⟨_,rfl⟩ wA rfl rfl rfl Di) ⟨0,rfl,by omega,fun h=>by obtain ⟨_,_,h1,h2,_⟩:=cj h;cases h1;omega,by omega⟩ ?_;rintro j st ⟨e,rfl,he,aM,rfl⟩;refine br (fun hL=>?_) (fun hL=>?_)
 ·have hL:e < 4/\e<=r.length:=by
   simp [pickB_and,bI] at hL;omega
  have hx:(b.extract 0 (((e + 1:Nat):Int)).toNat)=ba ((c :: r).take (e + 1)):=FC hB;have hbl:(ba ((c :: r).take (e + 1))).size=e + 1:=by rw [<- bc,rS,List.length_take,List.length_cons];omega
  have tV:=kV (b.extract 0 (((e + 1:Nat):Int)).toNat) (by rw [hx];omega);rw [show tx (b.extract 0 (((e + 1:Nat):Int)).toNat)=(c :: r).take (e + 1) from by rw [hx,rS]] at tV;have UK:=FB ((c :: r).take (e + 1));have hw:=hwf (e + 1) (by omega) (by omega) (by omega);have hwd:JI ((c :: r).take (e + 1))=(fW (recV ((c :: r).take (e + 1))) && decide (wH (recV ((c :: r).take (e + 1)))=(c :: r).take (e + 1))):=rfl;rw [hwd] at hw;have GW:b.size=r.length + 1:=bI;generalize x3:(c :: r).take (e + 1)=l at tV UK hw hx;generalize Ms:recV l=z at tV UK hw;have hzr:z=recV ((c :: r).take (e + 1)):=by rw [x3,Ms]
  have Ib:IntKind.i32.wrap z=z:=by
   exact wrap32 (by omega) (by omega)
  have xD:EvP Tryz.prog 225 [.v (.int .i32 (IntKind.i32.wrap z))] (.v (.bool (fW z))):=by
   rw [Ib];exact nO z
  have iP:EvP Tryz.prog 226 [.v (.int .i32 (IntKind.i32.wrap z))] (.v (.string (ba (wH z)))):=by
   rw [Ib];exact qB z
  generalize hsb:fW z=sb at xD hw;generalize wH z=en at iP hw;refine ⟨⟨by omega,by omega,by omega⟩,?_⟩;refine call_p DJ (tV) ax rfl ?_
  have JJ:ja (c :: r)=false∨e + 1≠av c.toNat->∃ j',j' < 4 - e/\∃ e',ng b (e + 1)=ng b e' /\ e' <= 4/\(ja (c :: r)=true->e' < av c.toNat)/\j'=4 - e':=fun h=>⟨4 - (e + 1),by omega,e + 1,rfl,by omega,fun h2=>by
   have:=aM h2;rcases h with h | h
   ·rw [h] at h2;cases h2
   ·omega,rfl⟩
  have Cg:(sb && decide (en=l))=false->ja (c :: r)=false∨e + 1≠av c.toNat:=fun h=>by
   rw [h] at hw;cases ho:ja (c :: r)
   ·exact .inl rfl
   ·rw [ho] at hw;simp at hw;exact .inr fun h=>hw h.symm
  refine aR (fun _=>false) mo (by decide +kernel) ?_;refine cr I9 (xD) ax rfl ?_
  cases sb with
  | false=>
   obtain ⟨j',h1,h2⟩:=JJ (Cg rfl);exact ⟨ng b (e + 1),(weak_mk ⟨_,rfl⟩ wA rfl rfl rfl (by repeat' (first | exact trivial | exact ai rfl | exact aj (ej (by omega:e + 1 < 5) (by omega)) | refine ⟨⟨_,rfl,?_⟩,?_⟩))),j',h1,h2⟩
  | true=>
   refine cr Ja (iP) ax rfl ?_;refine ⟨⟨by omega,by omega,by omega⟩,?_⟩;refine br (fun cc=>?_) (fun cc=>?_)
   ·have hT:(true && decide (en=l))=true:=by
     have c1:ba en=b.extract 0 (((e + 1:Nat):Int)).toNat:=by simpa [pickB] using cc
     rw [hx,FD] at c1;simp [c1]
    rw [hT] at hw;have hu:=hw.symm;rw [Bool.and_eq_true,decide_eq_true_iff] at hu;rw [hu.1];exact ⟨.tup [.v (.int .i32 (IntKind.i32.wrap z)),.v (.int .i64 ((e + 1:Nat):Int)),.v (.bool true)],ax,_,_,rfl,fun _=>⟨by rw [hu.2],by rw [Ib,hzr,hu.2],by rw [Ib,hsb]⟩⟩
   ·have hF:(true && decide (en=l))=false:=by
     have c1:¬ ba en=b.extract 0 (((e + 1:Nat):Int)).toNat:=by simpa [pickB] using cc
     rw [hx,FD] at c1;simp [c1]
    obtain ⟨j',h1,h2⟩:=JJ (Cg hF);exact ⟨ng b (e + 1),(weak_mk ⟨_,rfl⟩ wA rfl rfl rfl (by repeat' (first | exact trivial | exact ai rfl | exact aj (ej (by omega:e + 1 < 5) (by omega)) | refine ⟨⟨_,rfl,?_⟩,?_⟩))),j',h1,h2⟩
 ·have mq:ja (c :: r)=false:=by
   cases ho:ja (c :: r)
   ·rfl
   ·obtain ⟨_,_,h1,h2,h3,_⟩:=cj ho;cases h1;have h4:=aM ho;have h5:=tT c.toNat;rw [List.length_cons] at h3;simp [pickB_and,bI] at hL;omega
  rw [mq];refine aw (fun j st=>∃ (e:Nat) (m:Int),st=tU b m e/\e<=2/\j=2 - e) 2 (tU b 1 0) (weak_mk ⟨_,rfl⟩ wA rfl rfl rfl Di) ⟨0,1,rfl,by omega,by omega⟩ ?_;rintro j st ⟨e,m,rfl,he,rfl⟩;refine br (fun hL=>?_) (fun hL=>?_)
  ·have hL:e < 2/\e + 1<=r.length:=by
    simp [pickB_and,bI] at hL;omega
   have hx:(b.extract 0 (((e + 2:Nat):Int)).toNat)=ba ((c :: r).take (e + 2)):=FC hB;have hbl:(ba ((c :: r).take (e + 2))).size=e + 2:=by rw [<- bc,rS,List.length_take,List.length_cons];omega
   have Ei:=wI (b.extract 0 (((e + 2:Nat):Int)).toNat) (by rw [hx];omega);refine ⟨⟨by omega,by omega,by rw [bI];omega⟩,?_⟩;refine bP N2 rfl Ei ax (fun q hq=>?_);obtain ⟨b1,rfl⟩:=hq
   cases b1 with
   | true=>exact ⟨tU b ((e + 2:Nat):Int) (e + 1),(weak_mk ⟨_,rfl⟩ wA rfl rfl rfl (by repeat' (first | exact trivial | exact ai rfl | exact aj (ej (by omega:e + 2 < 4) (by omega)) | refine ⟨⟨_,rfl,?_⟩,?_⟩))),2 - (e + 1),by omega,e + 1,_,rfl,by omega,rfl⟩
   | false=>exact ⟨tU b m (e + 1),(weak_mk ⟨_,rfl⟩ wA rfl rfl rfl (by repeat' (first | exact trivial | exact ai rfl | exact aj (ej (by omega:e + 2 < 4) (by omega)) | refine ⟨⟨_,rfl,?_⟩,?_⟩))),2 - (e + 1),by omega,e + 1,_,rfl,by omega,rfl⟩
  ·exact ⟨.tup [.v (.int .i32 0),.v (.int .i64 m),.v (.bool false)],ax,_,_,rfl,fun h=>by cases h⟩
def spB:List DV->Bool
 | [.v (.int .i32 _),.v (.int .i32 _)]=>true
 | _=>false
theorem FE {cs:List DV} (h:spB cs=true):∃ a b:Int,cs=[.v (.int .i32 a),.v (.int .i32 b)]:=by
 unfold spB at h;split at h
 ·exact ⟨_,_,rfl⟩
 ·cases h
theorem JK {es:List (List DV)} (h:es.all spB=true) {i:Nat} (hi:i < es.length):∃ a b:Int,es[i]? = some [.v (.int .i32 a),.v (.int .i32 b)]:=by
 rw [List.all_eq_true] at h;obtain ⟨a,b,kH⟩:=FE (h es[i] (List.getElem_mem hi));exact ⟨a,b,by rw [gE hi,kH]⟩
def gG (z:Int):List DV->Bool
 | [.v (.int .i32 a),.v (.int .i32 b)]=>decide (a<=z) && decide (z<=b)
 | _=>false
def srtB:Int->List (List DV)->Bool
 | _,[]=>true
 | m,[.v (.int .i32 a),.v (.int .i32 b)] :: r=>decide (m < a) && decide (a<=b) && srtB b r
 | _,_=>false
theorem qC {m:Int} {x:List DV} {r:List (List DV)} (h:srtB m (x :: r)=true):∃ a b:Int,x=[.v (.int .i32 a),.v (.int .i32 b)]/\m < a/\a<=b/\srtB b r=true:=by
 unfold srtB at h;split at h
 ·rename_i bd;cases bd
 ·rename_i bd;injection bd with h1 h2
  subst h1 h2;rw [Bool.and_eq_true,Bool.and_eq_true,decide_eq_true_iff,decide_eq_true_iff] at h;exact ⟨_,_,rfl,h.1.1,h.1.2,h.2⟩
 ·cases h
theorem oC:∀ {es:List (List DV)} {m:Int} (_:srtB m es=true) {i:Nat} {a b:Int} (_:es[i]? = some [.v (.int .i32 a),.v (.int .i32 b)]),m < a/\a<=b/\srtB b (es.drop (i + 1))=true
 | [],_,_,i,_,_,hi=>by simp at hi
 | x :: r,m,h,i,a,b,hi=>by
  obtain ⟨a0,b0,rfl,h1,h2,h3⟩:=qC h
  cases i with
  | zero=>
   simp only [List.getElem?_cons_zero,oI,List.cons.injEq,DV.v.injEq,Value.int.injEq,true_and,and_true] at hi;obtain ⟨rfl,rfl⟩:=hi;exact ⟨h1,h2,h3⟩
  | succ i=>
   obtain ⟨g1,g2,g3⟩:=oC h3 (i:=i) (by simpa using hi);exact ⟨by omega,g2,g3⟩
theorem FF {z:Int}:∀ {es:List (List DV)} {m:Int} (_:srtB m es=true) (_:z<=m),es.any (gG z)=false
 | [],_,_,_=>rfl
 | x :: r,m,h,hz=>by
  obtain ⟨a0,b0,rfl,h1,h2,h3⟩:=qC h;rw [List.any_cons,FF h3 (by omega),Bool.or_false];simp only [gG,Bool.and_eq_false_imp,decide_eq_true_iff,decide_eq_false_iff_not];omega
theorem Lz {z m:Int} {es:List (List DV)} (h:srtB m es=true) {i:Nat} {a b:Int} (hi:es[i]? = some [.v (.int .i32 a),.v (.int .i32 b)]) (hz:z < a):(es.drop i).any (gG z)=false:=by
 obtain ⟨g1,g2,g3⟩:=oC h hi;rw [drop_cons hi,List.any_cons,FF g3 (by omega),Bool.or_false];simp only [gG,Bool.and_eq_false_imp,decide_eq_true_iff,decide_eq_false_iff_not];omega
theorem FG {z:Int}:∀ {es:List (List DV)} {m:Int} (_:srtB m es=true) {i:Nat} {a b:Int} (_:es[i]? = some [.v (.int .i32 a),.v (.int .i32 b)]) (_:b < z),(es.take (i + 1)).any (gG z)=false
 | [],_,_,i,_,_,hi,_=>by simp at hi
 | x :: r,m,h,i,a,b,hi,hz=>by
  obtain ⟨a0,b0,rfl,h1,h2,h3⟩:=qC h
  cases i with
  | zero=>
   simp only [List.getElem?_cons_zero,oI,List.cons.injEq,DV.v.injEq,Value.int.injEq,true_and,and_true] at hi;obtain ⟨rfl,rfl⟩:=hi;simp only [List.take_succ_cons,List.take_zero,List.any_cons,List.any_nil,Bool.or_false,gG,Bool.and_eq_false_imp,decide_eq_true_iff,decide_eq_false_iff_not];omega
  | succ i=>
   have hi:r[i]? = some [.v (.int .i32 a),.v (.int .i32 b)]:=by simpa using hi
   have g1:=(oC h3 hi).1;have g2:=(oC h3 hi).2.1;rw [List.take_succ_cons,List.any_cons,FG h3 hi hz,Bool.or_false];simp only [gG,Bool.and_eq_false_imp,decide_eq_true_iff,decide_eq_false_iff_not];omega
theorem AA {es:List (List DV)} {z a b:Int} {i:Nat} (hi:es[i]? = some [.v (.int .i32 a),.v (.int .i32 b)]) (h1:a<=z) (h2:z<=b):es.any (gG z)=true:=
 List.any_eq_true.2 ⟨_,mG hi,by simp only [gG,Bool.and_eq_true,decide_eq_true_iff];omega⟩
def PN (d:DV) (_:List (List DV)) (_:List TkE):Prop:=∃ es:List (List DV),d = .sl 2 es none/\(Nat.ble es.length 1000 && es.all spB)=true
set_option maxHeartbeats 4000000 in
theorem FH:Ev Tryz.prog 307 [] [] [] PN:=by
 refine ev_go (P:=Tryz.prog) tt tt_ok 5000 118 [.tmp 0] Tryz.func307 rfl Tryz.ntmps307 rfl (nL rfl) (fun E9 w9 hn9 hm9=>?_);exact ⟨_,ax,_,rfl,rfl⟩
set_option maxHeartbeats 4000000 in
theorem FI:Ev Tryz.prog 308 [] [] [] PN:=by
 refine ev_go (P:=Tryz.prog) tt tt_ok 5000 84 [.tmp 0] Tryz.func308 rfl Tryz.ntmps308 rfl (nL rfl) (fun E9 w9 hn9 hm9=>?_);exact ⟨_,ax,_,rfl,rfl⟩
abbrev hasSt (es:List (List DV)) (z:Int) (e:Nat):St:=⟨[(0,⟨[],.sl 2 es none⟩),(1,⟨[],.v (.int .i32 z)⟩),(5,⟨[],.v (.int .i64 e)⟩)],[],[]⟩
theorem yX (es:List (List DV)) (z:Int) (hl:es.length<=1000) (hs:es.all spB=true):Ev Tryz.prog 228 [.sl 2 es none,.v (.int .i32 z)] [] [] (fun d _ _=>∃ b:Bool,d = .v (.bool b)/\(0<=z->z<=1114111->b=es.any (gG z))):=by
 refine ev_go (P:=Tryz.prog) tt tt_ok 5000 36 [.tmp 4] Tryz.func228 rfl Tryz.ntmps228 rfl (nL rfl) (fun E9 w9 hn9 hm9=>?_);refine aw (fun j st=>∃ e:Nat,st=hasSt es z e/\e<=es.length/\(0<=z->z<=1114111->es.any (gG z)=(es.drop e).any (gG z))/\j=es.length - e) es.length (hasSt es z 0) (weak_mk ⟨_,rfl⟩ wA rfl rfl rfl Di) ⟨0,rfl,by omega,fun _ _=>rfl,by omega⟩ ?_;rintro j st ⟨e,rfl,he,Mt,rfl⟩;refine br (fun hL=>?_) (fun hL=>?_)
 rotate_left
 ·have bJ:e=es.length:=by have:=of_decide_eq_false hL;omega
  refine ⟨_,rfl,fun h1 h2=>?_⟩;rw [Mt h1 h2,bJ,List.drop_length];all_goals rfl
 have aq:e < es.length:=by have:=of_decide_eq_true hL;omega
 obtain ⟨a,b,kH⟩:=JK hs aq
 have gV:(0<=z->z<=1114111->¬ (a<=z/\z<=b))->∃ j',j' < es.length - e/\∃ e':Nat,hasSt es z (e + 1)=hasSt es z e' /\ e' <= es.length/\(0<=z->z<=1114111->es.any (gG z)=(es.drop e').any (gG z))/\j'=es.length - e':=fun mq=>⟨es.length - (e + 1),by omega,e + 1,rfl,by omega,fun h1 h2=>by
  rw [Mt h1 h2,drop_cons kH,List.any_cons]
  have:gG z [.v (.int .i32 a),.v (.int .i32 b)]=false:=by
   have:=mq h1 h2;simp only [gG,Bool.and_eq_false_imp,decide_eq_true_iff,decide_eq_false_iff_not];omega
  rw [this,Bool.false_or],rfl⟩
 refine br (fun c1=>?_) (fun c1=>?_)
 ·refine ⟨_,⟨by omega,kH⟩,?_⟩;refine br (fun c2=>?_) (fun c2=>?_)
  ·have c2:a<=z:=by simpa [pickB_and] using c2
   refine ⟨_,⟨by omega,kH⟩,?_⟩;refine br (fun c3=>?_) (fun c3=>?_)
   ·exact ⟨_,rfl,fun _ _=>(AA kH c2 (by simpa [pickB_and] using c3)).symm⟩
   ·obtain ⟨j',h1,h2⟩:=gV (fun _ _=>by simp [pickB_and] at c3;omega);exact ⟨hasSt es z (e + 1),(weak_mk ⟨_,rfl⟩ wA rfl rfl rfl (wNB aq)),j',h1,h2⟩
  ·obtain ⟨j',h1,h2⟩:=gV (fun _ _=>by simp [pickB_and] at c2;omega);exact ⟨hasSt es z (e + 1),(weak_mk ⟨_,rfl⟩ wA rfl rfl rfl (wNB aq)),j',h1,h2⟩
 ·obtain ⟨j',h1,h2⟩:=gV (fun _ _=>by simp [pickB_and] at c1;omega);exact ⟨hasSt es z (e + 1),(weak_mk ⟨_,rfl⟩ wA rfl rfl rfl (wNB aq)),j',h1,h2⟩
abbrev Ic (es:List (List DV)) (z:Int) (lo hi:Nat):St:=⟨[(0,⟨[],.sl 2 es none⟩),(1,⟨[],.v (.int .i32 z)⟩),(5,⟨[],.v (.int .i64 lo)⟩),(6,⟨[],.v (.int .i64 hi)⟩)],[],[]⟩
theorem tW (es:List (List DV)) (z:Int) (hl:es.length<=1000) (hs:es.all spB=true):Ev Tryz.prog 263 [.sl 2 es none,.v (.int .i32 z)] [] [] (fun d _ _=>∃ b:Bool,d = .v (.bool b)/\∀ m,srtB m es=true->b=es.any (gG z)):=by
 refine ev_go (P:=Tryz.prog) tt tt_ok 5000 38 [.tmp 4] Tryz.func263 rfl Tryz.ntmps263 rfl (nL rfl) (fun E9 w9 hn9 hm9=>?_);refine aw (fun j st=>∃ lo hi:Nat,st=Ic es z lo hi/\lo<=hi/\hi<=es.length/\(∀ m,srtB m es=true->(es.take lo).any (gG z)=false/\(es.drop hi).any (gG z)=false)/\j=hi - lo) es.length (Ic es z 0 es.length) (weak_mk ⟨_,rfl⟩ wA rfl rfl rfl Di) ⟨0,es.length,rfl,by omega,by omega,fun _ _=>⟨rfl,by rw [List.drop_length];rfl⟩,by omega⟩ ?_;rintro j st ⟨lo,hi,rfl,h1,h2,Mt,rfl⟩;refine br (fun hL=>?_) (fun hL=>?_)
 rotate_left
 ·have bJ:lo=hi:=by have:=of_decide_eq_false hL;omega
  refine ⟨_,rfl,fun m hm=>?_⟩;obtain ⟨g1,g2⟩:=Mt m hm;rw [<- bJ] at g2;rw [<- List.take_append_drop lo es,List.any_append,g1,g2];all_goals rfl
 have aq:lo < hi:=by have:=of_decide_eq_true hL;omega
 have hm:IntKind.i64.wrap ((lo:Int) + IntKind.i64.wrap ((IntKind.i64.wrap ((hi:Int) - lo)).tdiv 2))=((lo + (hi - lo) / 2:Nat):Int):=by
  rw [wrap64 (n:=(hi:Int) - lo) (by omega) (by omega)];rw [Int.tdiv_eq_ediv_of_nonneg (by omega)];rw [wrap64 (n:=((hi:Int) - lo) / 2) (by omega) (by omega),wrap64 (by omega) (by omega)];omega
 obtain ⟨a,b,kH⟩:=JK hs (i:=lo + (hi - lo) / 2) (by omega);refine ⟨⟨rfl,by decide⟩,?_⟩;refine ⟨_,⟨by rw [hm];omega,by rw [hm,Int.toNat_natCast];exact kH⟩,?_⟩;refine br (fun c=>?_) (fun c=>?_)
 ·exact ⟨Ic es z lo (lo + (hi - lo) / 2),(weak_mk ⟨_,rfl⟩ wA rfl rfl rfl (by repeat' (first | exact trivial | exact ai rfl | exact aj hm | refine ⟨⟨_,rfl,?_⟩,?_⟩))),lo + (hi - lo) / 2 - lo,by omega,_,_,rfl,by omega,by omega,fun m hm=>⟨(Mt m hm).1,Lz hm kH (by simpa using c)⟩,rfl⟩
 ·refine ⟨_,⟨by rw [hm];omega,by rw [hm,Int.toNat_natCast];exact kH⟩,?_⟩;have c0:=c;refine br (fun c=>?_) (fun c=>?_)
  ·have qO:IntKind.i64.wrap (IntKind.i64.wrap ((lo:Int) + IntKind.i64.wrap ((IntKind.i64.wrap ((hi:Int) - lo)).tdiv 2)) + 1)=((lo + (hi - lo) / 2 + 1:Nat):Int):=by
    rw [hm,wrap64 (by omega) (by omega)];omega
   exact ⟨Ic es z (lo + (hi - lo) / 2 + 1) hi,(weak_mk ⟨_,rfl⟩ wA rfl rfl rfl (by repeat' (first | exact trivial | exact ai rfl | exact aj qO | refine ⟨⟨_,rfl,?_⟩,?_⟩))),hi - (lo + (hi - lo) / 2 + 1),by omega,_,_,rfl,by omega,by omega,fun m hm=>⟨FG hm kH (by simpa using c),(Mt m hm).2⟩,rfl⟩
  ·exact ⟨_,rfl,fun _ _=>(AA kH (by simpa using c0) (by simpa using c)).symm⟩
theorem wJ (z:Int):Ev Tryz.prog 302 [.v (.int .i32 z)] [] [] (fun d _ _=>∃ b:Bool,d = .v (.bool b)):=by
 refine ev_go (P:=Tryz.prog) tt tt_ok 5000 6 [.tmp 2] Tryz.func302 rfl Tryz.ntmps302 rfl (nL rfl) (fun E9 w9 hn9 hm9=>?_);refine bP On rfl FH ax (fun q hq=>?_);obtain ⟨es,rfl,he⟩:=hq;rw [Bool.and_eq_true,Nat.ble_eq] at he;refine bP rI rfl (tW es z he.1 he.2) ax (fun q hq=>?_);obtain ⟨b,rfl,_⟩:=hq;exact ⟨_,rfl⟩
theorem wK (z:Int):Ev Tryz.prog 303 [.v (.int .i32 z)] [] [] (fun d _ _=>∃ b:Bool,d = .v (.bool b)):=by
 refine ev_go (P:=Tryz.prog) tt tt_ok 5000 6 [.tmp 2] Tryz.func303 rfl Tryz.ntmps303 rfl (nL rfl) (fun E9 w9 hn9 hm9=>?_);refine bP Oo rfl FI ax (fun q hq=>?_);obtain ⟨es,rfl,he⟩:=hq;rw [Bool.and_eq_true,Nat.ble_eq] at he;refine bP rI rfl (tW es z he.1 he.2) ax (fun q hq=>?_);obtain ⟨b,rfl,_⟩:=hq;exact ⟨_,rfl⟩
theorem Ch (z:Int):Ev Tryz.prog 296 [.v (.int .i32 z)] [] [] (fun d _ _=>∃ n:Int,d = .v (.int .i64 n)):=by
 refine ev_go (P:=Tryz.prog) tt tt_ok 5000 9 [.tmp 2] Tryz.func296 rfl Tryz.ntmps296 rfl (nL rfl) (fun E9 w9 hn9 hm9=>?_);refine bP Oi rfl (wJ z) ax (fun q hq=>?_);obtain ⟨b,rfl⟩:=hq
 cases b with
 | true=>exact ⟨_,rfl⟩
 | false=>
  refine bP Oj rfl (wK z) ax (fun q hq=>?_);obtain ⟨b,rfl⟩:=hq
  cases b with
  | true=>exact ⟨_,rfl⟩
  | false=>exact ⟨_,rfl⟩
theorem FJ (s:ByteArray) (hs:s.size<=1099511627776):EvP Tryz.prog 179 [.v (.string s),.v (.int .i64 (s.size:Nat))] (.tup [.v (.int .i32 0),.v (.int .i64 0),.v (.bool false)]):=by
 refine ev_go (P:=Tryz.prog) tt tt_ok 5000 60 [.tmp 4,.tmp 5,.tmp 6] Tryz.func179 rfl Tryz.ntmps179 rfl (nL rfl) (fun E9 w9 hn9 hm9=>?_);refine br (fun _=>?_) (fun c=>absurd c (by simp [ak]));exact ⟨_,ax,rfl⟩
theorem Ci (s:ByteArray) (aC:Nat) (hs:s.size<=1099511627776) (h:aC <= s.size):Ev Tryz.prog 280 [.v (.string s),.v (.int .i64 aC)] [] [] (fun d _ _=>∃ c:Int,d = .tup [.v (.int .i64 c),.v (.int .i64 (jG ((tx s).drop aC):Nat))]):=by
 cases hd:(tx s).drop aC with
 | nil=>
  have he:aC=s.size:=by
   have:=congrArg List.length hd;rw [List.length_drop,bc,List.length_nil] at this;omega
  subst he;refine ev_go (P:=Tryz.prog) tt tt_ok 5000 24 [.tmp 4,.tmp 5] Tryz.func280 rfl Tryz.ntmps280 rfl (nL rfl) (fun E9 w9 hn9 hm9=>?_);refine call_p DI (FJ s hs) ax rfl ?_;exact ⟨.tup [.v (.int .i64 0),.v (.int .i64 ((0:Nat):Int))],ax,_,rfl⟩
 | cons c r=>
  have hu:=sC s aC hs c r hd;have Dp:jG (c :: r)=if ja (c :: r)=true then av c.toNat else 1:=rfl
  rw [Dp];generalize ja (c :: r)=ok at hu ⊢;refine ev_go (P:=Tryz.prog) tt tt_ok 5000 24 [.tmp 4,.tmp 5] Tryz.func280 rfl Tryz.ntmps280 rfl (nL rfl) (fun E9 w9 hn9 hm9=>?_);refine bP DI rfl hu ax (fun q hq=>?_);obtain ⟨z,n,rfl,hn,hp⟩:=hq
  cases ok with
  | true=>
   have:=(hn rfl).1;subst this;refine bP Og rfl (Ch z) ax (fun q hq=>?_);obtain ⟨m,rfl⟩:=hq;exact ⟨.tup [.v (.int .i64 m),.v (.int .i64 (av c.toNat:Nat))],ax,_,rfl⟩
  | false=>
   refine br (fun _=>?_) (fun g=>absurd g (by simp;omega));exact ⟨.tup [.v (.int .i64 1),.v (.int .i64 ((1:Nat):Int))],ax,_,rfl⟩
end Go.Proofs.YtfifjddnnmfeoaaGreat
set_option maxRecDepth 100000
namespace Go.Proofs
open Go.Shelf
def Tryz.laysB_ren:Go.Shelf.Ren:=⟨fun | 240=>178 | 276=>219 | n=>n,fun | 9=>9 | 4=>4 | 0=>0 | 20=>20 | 72=>161 | 70=>158 | 37=>159 | 164=>296 | 5=>5 | n=>n,fun | n=>n⟩
theorem Tryz.laysB:Go.Proofs.Lays.n240 Tryz.prog Tryz.laysB_ren:={
 mixed:=by kernel_rfl
 f240:=Tryz.func178.trans (congrArg some (by kernel_rfl))
 f276:=Tryz.func219.trans (congrArg some (by kernel_rfl))
 t0:=Tryz.underlying0
 a0:=Tryz.isAgg0
 z0:=Tryz.sizeOf0
 v0:=Tryz.zeroValue0
 t4:=Tryz.underlying4
 a4:=Tryz.isAgg4
 z4:=Tryz.sizeOf4
 v4:=Tryz.zeroValue4
 t9:=Tryz.underlying9
 a9:=Tryz.isAgg9
 z9:=Tryz.sizeOf9
 v9:=Tryz.zeroValue9
 t20:=Tryz.underlying20
 a20:=Tryz.isAgg20
 z20:=Tryz.sizeOf20
 v20:=Tryz.zeroValue20
 t70:=Tryz.underlying158
 a70:=Tryz.isAgg158
 z70:=Tryz.sizeOf158
 v70:=Tryz.zeroValue158
 t72:=Tryz.underlying161
 a72:=Tryz.isAgg161
 z72:=Tryz.sizeOf161
 v72:=Tryz.zeroValue161
 t164:=Tryz.underlying296
 a164:=Tryz.isAgg296
 z164:=Tryz.sizeOf296
 v164:=Tryz.zeroValue296 }
theorem Tryz.laysBX:Builder.Extra Tryz.prog Tryz.laysB_ren:={
 sizeBuilder:=by kernel_rfl
 liesBuilder:=by kernel_rfl
 t5:=Tryz.underlying5
 a5:=Tryz.isAgg5
 z5:=Tryz.sizeOf5
 v5:=Tryz.zeroValue5
 infoByte:=by kernel_rfl
 cellsByte:=by kernel_rfl
 sizeByte:=by kernel_rfl
 neB5:=by decide }
end Go.Proofs
set_option maxRecDepth 100000
namespace Go.Proofs.YtfifjddnnmfeoaaGreat
open Go Go.RowKit Go.Lib Dv Tryz
theorem iL {P:Program} (w:World) (t u ty e:TypeId) (i:TypeInfo) (ht:P.underlying t=some (.slice e)) (hu:P.underlying u=some .string) (hi:P.info? e=some i) (hz:i.zero=some (.int .u8 0))
  (fu:i.size=1) (qL:i.bytes=1) (v:Value) (n:Nat) (xs:List Value) (bR:w.ownsRow 0 e 1 v n xs) (s:ByteArray) (CA:n + s.size<=maxLen) (fv:n + s.size<=140737488355328) (hs:0 < s.size) :
  ∃ g cap w',(Builtin.append_ #[t,u] ty #[v,.string s]).run P w = .ok (.slice (some ⟨g,0,none⟩) (n + s.size) cap) w' /\ w'.ownsRow 0 e 1 (.slice (some ⟨g,0,none⟩) (n + s.size) cap) (n + s.size) (xs ++ strCells s)/\w.grownBy w' v.ownBlock /\
   ((v.ownBlock=some g)∨(w.heap.size<=g/\∀ k,k < w.heap.size->w'.heap[k]? = w.heap[k]?)):=by
 obtain ⟨v',w',hr,h2,h3,h4⟩:=Lib.run_append_own_string (P:=P) w 0 t u ty e i ht hu hi hz fu qL v n xs bR s CA fv (Nat.zero_le _);have CU:n + s.size<=9223372036854775807:=by simp only [maxLen] at CA;omega
 have ru:xs.length=n:=by simpa using bR.1
 rcases bR.2 with ⟨rfl,rfl⟩ | ⟨g,cap,cur,rfl,hbg,hg,oc,hcm,bE,htake⟩
 ·have jb:=run_append_nil_string (P:=P) w t u ty e i (.int .u8 0) ht hu hi hz s hs (by omega) (by rw [qL];omega);rw [jb] at hr;injection hr with e1 e2
  subst e1;simp only [Nat.zero_add] at *;exact ⟨_,_,w',by rw [jb,e2],h2,h3,.inr ⟨Nat.le_refl _,fun k hk=>by rw [<- e2];exact Below.heap_alloc w.drew _ k hk⟩⟩
 ·by_cases zs:n + s.size<=cap
  ·have hcs':cur.size=cap:=by simpa using bE
   have jb:=Lib.run_append_room_string (P:=P) w t u ty e i ht hu hi fu g n cap cur hg s zs (by omega);rw [jb] at hr;injection hr with e1 e2
   subst e1;exact ⟨_,_,w',by rw [jb,e2],h2,h3,.inl rfl⟩
  ·have holds:∀ j u,xs[j]? = some u->w.cell? ((⟨g,0,none⟩:Addr).add j)=some u:=bR.cells (g:=g) rfl;have jb:=Lib.run_append_grow_string (P:=P) w t u ty e i (.int .u8 0) ht hu hi hz ⟨g,0,none⟩ n cap xs (by rw [fu];simpa using ru) holds s (by omega) (by omega) (by rw [qL];exact growslice_fits (by omega) (by omega));rw [jb] at hr;injection hr with e1 e2
   subst e1;exact ⟨_,_,w',by rw [jb,e2],h2,h3,.inr ⟨Nat.le_refl _,fun k hk=>by rw [<- e2];exact Below.heap_alloc w.drew _ k hk⟩⟩
theorem nP {w:World} {b:Nat} {o:Obj} (h:w.heap[b]? = some o):World.bN w b o=w:=by
 obtain ⟨hb,hg⟩:=Array.getElem?_eq_some_iff.1 h
 have e:w.heap.setIfInBounds b o=w.heap:=by
  apply Array.ext
  ·simp
  ·intro i h1 h2;by_cases hi:b=i
   ·subst hi;simp [hg]
   ·rw [Array.getElem_setIfInBounds_ne (by simpa using h1) hi]
 show { w with heap:=w.heap.setIfInBounds b o }=w;rw [e]
abbrev eB (w:World) (b:Nat) (v:Value):World:=World.bN w b (.cells #[.pointer (some ⟨b,0,none⟩),v] 161 (0,0))
theorem qD (b:Nat) (p v:Value) (w:World) (hp:p = .pointer none∨p = .pointer (some ⟨b,0,none⟩)) (lO:w.heap[b]? = some (.cells #[p,v] 161 (0,0))) :
  Calls Tryz.prog 178 #[.pointer (some ⟨b,0,none⟩)] w fun e w'=>e = .returned (.tuple #[])/\w'=eB w b v:=by
 rcases hp with rfl | rfl
 ·refine (Any.Builder_copyCheck_fresh Tryz.laysB Tryz.laysBX.toX72 b w (by rw [Lib.cell_of_heap lO];rfl) (by simp [World.shape?,lO,Tryz.laysB_ren]) (by simp [World.frozen?,lO])).mono ?_;rintro e w' ⟨rfl,rfl⟩;exact ⟨rfl,by rw [cS lO];rfl⟩
 ·refine (Any.Builder_copyCheck_used Tryz.laysB Tryz.laysBX.toX72 b w (by rw [Lib.cell_of_heap lO];rfl)).mono ?_;rintro e w' ⟨rfl,rfl⟩;exact ⟨rfl,(nP lO).symm⟩
theorem kW {P:Program} {w:World} {ops:Array Oper} {rest:List Oper} {o:Oper} {a:Act} {Q:Exit->Act->World->Prop} (De:o.guard=none) (sl x:Operand) (t u:TypeId)
  (ho:o.op = .call { callee:=.builtin .append,args:=#[sl,x],argTypes:=#[t,u] })
  (e:TypeId) (i:TypeInfo) (ht:P.underlying t=some (.slice e)) (hu:P.underlying u=some .string) (hi:P.info? e=some i) (hz:i.zero=some (.int .u8 0))
  (fu:i.size=1) (qL:i.bytes=1)
  (v:Value) (n:Nat) (xs:List Value) (hs:a.eval sl=v) (bR:w.ownsRow 0 e 1 v n xs) (s:ByteArray) (hx:a.eval x = .string s)
  (CA:n + s.size<=maxLen) (fv:n + s.size<=140737488355328) (ke:0 < s.size)
  (h:∀ g cap w',w'.ownsRow 0 e 1 (.slice (some ⟨g,0,none⟩) (n + s.size) cap) (n + s.size) (xs ++ strCells s)->w.grownBy w' v.ownBlock->((v.ownBlock=some g)∨(w.heap.size<=g/\∀ k,k < w.heap.size->w'.heap[k]? = w.heap[k]?)) ->
   wpList P ops Q rest (a.put o.dst (.slice (some ⟨g,0,none⟩) (n + s.size) cap)) w'):wpList P ops Q (o :: rest) a w:=by
 refine wpList_plain De fun K hK=>?_;obtain ⟨g,cap,w',hr,h2,h3,h4⟩:=iL (P:=P) w t u o.type e i ht hu hi hz fu qL v n xs bR s CA fv ke;unfold Oper.wp execOp;simp only [ho,resolve,invoke,builtin,Sem.run_bind,Sem.run_pure,Result.andThen_ok,List.map_toArray,List.map_cons,List.map_nil,hs,hx,hr];exact hK _ _ (h g cap w' h2 h3 h4)
def yY (ret:Value) (w:World) (b:Nat) (v:Value) (n:Nat) (xs:List Value) (s:ByteArray) (e:Ending) (w':World):Prop:=
 e = .returned ret/\∃ g cap w2,w2.ownsRow 0 5 1 (.slice (some ⟨g,0,none⟩) (n + s.size) cap) (n + s.size) (xs ++ strCells s)/\(eB w b v).grownBy w2 v.ownBlock /\
  ((v.ownBlock=some g)∨((eB w b v).heap.size<=g/\∀ k,k < (eB w b v).heap.size->w2.heap[k]? = (eB w b v).heap[k]?)) /\
  w'=World.bN w2 b (.cells #[.pointer (some ⟨b,0,none⟩),.slice (some ⟨g,0,none⟩) (n + s.size) cap] 161 (0,0))
theorem tX {w:World} {b e n:Nat} {v:Value} {xs:List Value} {o:Obj} (h:w.ownsRow 0 e 1 v n xs) (aM:v.ownBlock≠some b):(World.bN w b o).ownsRow 0 e 1 v n xs:=by
 refine ⟨h.1,?_⟩;rcases h.2 with h | ⟨g,cap,cur,rfl,h1,h2,h3⟩
 ·exact .inl h
 ·refine .inr ⟨g,cap,cur,rfl,h1,?_,h3⟩;rw [bm]
  ·exact h2
  ·rintro rfl;exact aM rfl
set_option maxHeartbeats 2000000 in
theorem LA (b:Nat) (p v:Value) (n:Nat) (xs:List Value) (s:ByteArray) (w:World) (hp:p = .pointer none∨p = .pointer (some ⟨b,0,none⟩)) (lO:w.heap[b]? = some (.cells #[p,v] 161 (0,0)))
  (bR:w.ownsRow 0 5 1 v n xs) (aM:v.ownBlock≠some b) (hs:0 < s.size) (hlen:n + s.size<=140737488355328) :
  Calls Tryz.prog 124 #[.pointer (some ⟨b,0,none⟩),.string s] w (yY (.tuple #[.int .i64 s.size,.nilIface]) w b v n xs s):=by
 obtain ⟨i0,hi,Ms,hz1,Mm⟩:=info_parts Tryz.laysBX.infoByte
 go_enter Tryz.func124,Tryz.ntmps124
 go_wp2_with (go_at_call 178;refine (qD b p v _ hp lO).mono ?_)
 rintro e w1 ⟨rfl,rfl⟩;have fD:(eB w b v).heap[b]? = some (.cells #[.pointer (some ⟨b,0,none⟩),v] 161 (0,0)):=cf lO;have wL:(eB w b v).ownsRow 0 5 1 v n xs:=tX bR aM;have c0:(eB w b v).cell? ⟨b,0,none⟩=some (.pointer (some ⟨b,0,none⟩)):=by rw [Lib.cell_of_heap fD];all_goals rfl
 have c1:(eB w b v).cell? ⟨b,1,none⟩=some v:=by rw [Lib.cell_of_heap fD];all_goals rfl
 have aq:b < (eB w b v).heap.size:=bg fD;obtain ⟨W1,FK⟩:∃ W1,W1=eB w b v:=⟨_,rfl⟩;rw [<- FK] at fD wL c0 c1 aq ⊢;have HW:=Lib.hid FK;clear FK
 go_wp2_with (at_builtin;refine kW rfl _ _ 159 9 rfl 5 i0 Tryz.underlying159 Tryz.underlying9 hi Ms hz1 Mm _ _ _ rfl wL s rfl ?c3 ?c4 hs ?_)
 case c3=>unfold maxLen;omega
 case c4=>omega
 intro g cap w2 FL iU ux
 have eF:w2.heap[b]? = some (.cells #[.pointer (some ⟨b,0,none⟩),v] 161 (0,0)):=by
  rw [iU.block b aq (fun e=>aM e.symm)];exact fD
 have d0:w2.cell? ⟨b,0,none⟩=some (.pointer (some ⟨b,0,none⟩)):=by rw [Lib.cell_of_heap eF];all_goals rfl
 have d1:w2.cell? ⟨b,1,none⟩=some v:=by rw [Lib.cell_of_heap eF];all_goals rfl
 have f1:w2.frozen? ⟨b,1,none⟩=false:=Lib.frozen_of_heap eF 1
 go_wp2
 go_ret2
 refine ⟨rfl,g,cap,w2,FL,by rw [<- HW.out];exact iU,by rw [<- HW.out];exact ux,?_⟩;rw [cS eF];rfl
set_option maxHeartbeats 1000000 in
theorem LB (b g cap:Nat) (p:Value) (l:List UInt8) (cur:Array Value) (w:World) (h0:l ≠ []) (lO:w.heap[b]? = some (.cells #[p,.slice (some ⟨g,0,none⟩) l.length cap] 161 (0,0)))
  (hg:w.heap[g]? = some (.cells cur 5 (0,0))) (oc:l.length<=cap) (hcm:cap<=maxLen) (bE:cur.size=cap * 1) (htake:cur.toList.take (l.length * 1)=Lib.byteCells l) :
  Calls Tryz.prog 80 #[.pointer (some ⟨b,0,none⟩)] w fun e w'=>e = .returned (.string ⟨l.toArray⟩)/\w'=w.drew.freeze ⟨g,0,none⟩ l.length:=by
 have x3:l.length≠0:=by simpa using h0
 have bR:w.ownsRow 0 5 1 (.slice (some ⟨g,0,none⟩) l.length cap) l.length (Lib.byteCells l):=⟨by rw [Lib.byteCells_length,Nat.mul_one],.inr ⟨g,cap,cur,rfl,Nat.zero_le _,hg,oc,hcm,bE,htake⟩⟩
 have c1:w.drew.cell? ⟨b,1,none⟩=some (.slice (some ⟨g,0,none⟩) l.length cap):=by
  have:w.drew.heap[b]? = some (.cells #[p,.slice (some ⟨g,0,none⟩) l.length cap] 161 (0,0)):=lO;rw [Lib.cell_of_heap this];all_goals rfl
 have hSD:(Builtin.unsafeSliceData_ #[159] 241 #[.slice (some ⟨g,0,none⟩) l.length cap]).run Tryz.prog w.drew = .ok (.pointer (some ⟨g,0,none⟩)) w.drew:=
  Lib.run_unsafeSliceData_row _ _ _ _ _ _ (by omega)
 have hUS:(Builtin.unsafeString_ #[241,3] 9 #[.pointer (some ⟨g,0,none⟩),.int .i64 l.length]).run Tryz.prog w.drew = .ok (.string ⟨l.toArray⟩) (w.drew.freeze ⟨g,0,none⟩ l.length):=by
  refine Lib.run_unsafeString_row w.drew 241 3 9 5 Tryz.underlying241 (by kernel_rfl) g cur.size (by have uz:w.drew.heap[g]? = some (.cells cur 5 (0,0)):=hg;simp [World.shape?,uz]) l h0 (by omega) (by unfold maxLen at hcm;omega) ?_;intro j x hx;have:=bR.cells (g:=g) rfl j (.int .u8 x.toNat) (by simp [Lib.byteCells,hx]);exact this
 clear bR htake bE hg;have mixed:=mo
 go_enter Tryz.func80,Tryz.ntmps80
 go_wp2
 go_region_o
 all_goals (go_wp2;go_ret;exact ⟨rfl,rfl⟩)
end Go.Proofs.YtfifjddnnmfeoaaGreat
set_option maxRecDepth 100000
namespace Go.Proofs.YtfifjddnnmfeoaaGreat
open Go Go.RowKit Dv Tryz
def bD (l:List UInt8):List (List DV):=l.map fun c=>[DV.v (.int .u8 c.toNat)]
theorem nh (l:List UInt8):(bD l).length=l.length:=by simp [bD]
theorem FM {E:En}:∀ l:List UInt8,RvC E (bD l).flatten (Lib.byteCells l)
 | []=>⟨bn _,by simp [Lib.byteCells]⟩
 | c :: r=>by
  obtain ⟨h1,h2⟩:=FM (E:=E) r;refine ⟨?_,fun v hv=>?_⟩
  ·simp only [bD,List.map_cons,List.flatten_cons,List.cons_append,List.nil_append,Lib.byteCells];exact rvL_cons (by unfold Rv;exact ⟨rfl,rfl⟩) h1
  ·simp only [Lib.byteCells,List.map_cons,List.mem_cons] at hv;rcases hv with rfl | hv
   ·rfl
   ·exact h2 v hv
theorem AB {E:En}:∀ {l:List UInt8} {arr:List Value},RvL E (bD l).flatten arr->arr=Lib.byteCells l
 | [],arr,h=>by simpa [bD,RvL,Lib.byteCells] using h
 | c :: r,arr,h=>by
  simp only [bD,List.map_cons,List.flatten_cons,List.cons_append,List.nil_append,RvL] at h;obtain ⟨v,s,rfl,h1,h2⟩:=h;unfold Rv at h1;rw [h1.1,AB (l:=r) h2];rfl
theorem strCells_eq (s:ByteArray):Lib.strCells s=Lib.byteCells s.data.toList:=rfl
theorem yZ {X:Ctx} {E:En} {st:St} {a:Act} {w:World} (h:Rel X E st a w) {kt:Nat} {l:List UInt8} {cv:Value} (hl:l ≠ []) (ib:st.tk[kt]? = some ⟨l.length,5,1,none⟩) (hv:Rv E (.sl 1 (bD l) (some kt)) cv) :
  ∃ g cap cur,cv = .slice (some ⟨g,0,none⟩) l.length cap/\w.heap[g]? = some (.cells cur 5 (0,0))/\l.length<=cap/\cap<=maxLen/\cur.size=cap * 1/\cur.toList.take (l.length * 1)=Lib.byteCells l/\g ∉ E.β/\E.τ[kt]? = some cv:=by
 have aM:bD l ≠ []:=by
  intro hc;have:=nh l;rw [hc] at this;exact hl (List.eq_nil_of_length_eq_zero this.symm)
 have ke:0 < l.length:=List.length_pos_iff.2 hl;unfold Rv at hv;obtain ⟨bs,ns,iW,rfl,⟨rfl,xD⟩,Ka,s6⟩:=hv;rw [nh] at xD;obtain ⟨q,hq,_,hτ⟩:=s6 kt rfl;rw [h.tk,ib] at hq;simp only [oI] at hq;subst hq;have hy:=hτ (nh l);rcases h.env.bQ kt _ _ (by rw [h.tk];exact ib) hy with ⟨ka,gI⟩ | ⟨g,cap,cur,ka,hw0,uY,oc,hcm,eG,Db⟩
 ·simp only at gI;omega
 ·injection ka with i1 i2 i3
  subst i1 i3;refine ⟨g,iW,cur,by rw [nh],hw0,oc,hcm,uY.1,?_,eG,by rw [hy]⟩;obtain ⟨_,G0⟩:=Ka aM;obtain ⟨xP,fD,eF,CJ⟩:=G0.oH;have ha:=AB fD.1;subst ha;apply List.ext_getElem?;intro j;rw [nh] at eF;rcases Nat.lt_or_ge j (Lib.byteCells l).length with hj | hj
  ·have h5:=h.env.sub _ _ (CJ j _ (gE hj));simp only [ab,ao,Nat.zero_add] at h5;rw [bB hw0] at h5;rw [List.getElem?_take,if_pos (by omega),gE hj];simpa using h5
  ·rw [List.getElem?_eq_none (l:=Lib.byteCells l) hj,List.getElem?_take,if_neg (by omega)]
theorem Ie {X:Ctx} {E:En} {st:St} {a:Act} {w:World} (h:Rel X E st a w) {kt:Nat} {l:List UInt8} {cv:Value} (ib:st.tk[kt]? = some ⟨l.length,5,1,none⟩) (hv:Rv E (.sl 1 (bD l) (some kt)) cv) :
  w.ownsRow 0 5 1 cv l.length (Lib.byteCells l)/\E.τ[kt]? = some cv/\∀ b∈E.β,cv.ownBlock≠some b:=by
 cases l with
 | cons c r=>
  obtain ⟨g,cap,cur,rfl,hg,oc,hcm,bE,htake,L8,hτ⟩:=yZ h (List.cons_ne_nil c r) ib hv;refine ⟨⟨by rw [Lib.byteCells_length,Nat.mul_one],.inr ⟨g,cap,cur,rfl,Nat.zero_le _,hg,oc,hcm,bE,htake⟩⟩,hτ,fun b hb he=>?_⟩;simp only [Value.ownBlock,oI] at he;exact L8 (he ▸ hb)
 | nil=>
  unfold Rv at hv;obtain ⟨bs,ns,iW,rfl,⟨rfl,xD⟩,Ka,s6⟩:=hv;obtain ⟨q,hq,_,hτ⟩:=s6 kt rfl;rw [h.tk,ib] at hq;simp only [oI] at hq;subst hq;have hy:=hτ rfl;rcases h.env.bQ kt _ _ (by rw [h.tk];exact ib) hy with ⟨ka,gI⟩ | ⟨g,cap,cur,ka,hw0,uY,oc,hcm,eG,Db⟩
  ·rw [ka] at hy ⊢;exact ⟨⟨rfl,.inl ⟨rfl,rfl⟩⟩,hy,fun b _ he=>by simp [Value.ownBlock] at he⟩
  ·rw [ka] at hy ⊢;refine ⟨⟨rfl,.inr ⟨g,cap,cur,rfl,Nat.zero_le _,hw0,oc,hcm,uY.1,by simp [Lib.byteCells]⟩⟩,hy,fun b hb he=>?_⟩;simp only [Value.ownBlock,oI] at he;exact eG (he ▸ hb)
theorem wM {f:FuncId} {xd rd:DV} {ret:Value} {X:Ctx} {st:St} {k:List It} (hP:X.P=Tryz.prog) {i kt d:Nat} {p c:DV} {l:List UInt8} {s:ByteArray} {bi:List TkE} (hbt:(i,161)∈X.bt) (jT:st.bx[i]? = some [p,c])
  (hp:p = .v (.pointer none)∨p = .loc i 0)
  (hc:(c = .v (.slice none 0 0)/\l=[]/\kt=st.tk.length/\bi=st.tk ++ [⟨s.size,5,1,none⟩])∨(c = .sl 1 (bD l) (some kt)/\st.tk[kt]? = some ⟨l.length,5,1,none⟩/\bi=st.tk.set kt ⟨l.length + s.size,5,1,none⟩))
  (iP:Enters Tryz.prog f) (hrd:∀ E,Rv E rd ret)
  (uU:∀ (E:En) (b n:Nat) (p v x:Value) (xs:List Value) (w:World),Rv E xd x->p = .pointer none∨p = .pointer (some ⟨b,0,none⟩)->w.heap[b]? = some (.cells #[p,v] 161 (0,0))->w.ownsRow 0 5 1 v n xs->v.ownBlock≠some b->n + s.size<=140737488355328->Calls Tryz.prog f #[.pointer (some ⟨b,0,none⟩),x] w (yY ret w b v n xs s))
  (hs:0 < s.size) (hlen:l.length + s.size<=140737488355328) (hd:dq X.nt st.sl (some d)=true)
  (hk:go X 4000 k ⟨(d,⟨[],rd⟩) :: st.sl,st.bx.set i [.loc i 0,.sl 1 (bD (l ++ s.data.toList)) (some kt)],bi⟩)
  (aX:X.still=false:=by exact rfl):ct X f [.loc i 0,xd] (some d) k st:=by
 refine ⟨?_,aX,fun E a w vs h hv=>?_⟩
 ·rw [hP];exact iP
 rw [hP];simp only [RvL] at hv;obtain ⟨v1,vr,rfl,h1,v2,vr2,rfl,h2,rfl⟩:=hv;unfold Rv at h1;obtain ⟨b,hb,rfl⟩:=h1;obtain ⟨b',ty,arr,cJ,hw,qP⟩:=h.env.cL i _ jT;rw [hb] at cJ;simp only [oI] at cJ;subst cJ;obtain ⟨IJ,qE⟩:=h.bt _ hbt b hb;rw [hw] at qE;simp only [oI,Obj.cells.injEq] at qE;have J6:ty=161:=qE.2.1;subst J6;obtain ⟨hr,ho⟩:=qP;simp only [RvL] at hr;obtain ⟨pv,r1,rfl,JL,cv,r2,rfl,JN,rfl⟩:=hr
 have LD:pv = .pointer none∨pv = .pointer (some ⟨b,0,none⟩):=by
  rcases hp with rfl | rfl
  ·exact .inl (aN JL)
  ·unfold Rv at JL;obtain ⟨b2,eF,rfl⟩:=JL;rw [hb] at eF;simp only [oI] at eF;subst eF;exact .inr rfl
 have qW:b∈E.β:=mG hb;have AD:st.tk.length=E.tk.length:=by rw [h.tk]
 have key:∃ xs:List Value,xs=Lib.byteCells l/\w.ownsRow 0 5 1 cv l.length xs/\cv.ownBlock≠some b /\
   ((∃ q,E.tk[kt]? = some q/\E.τ[kt]? = some cv/\q.n=l.length/\q.ty=5/\q.e=1/\q.own=none)∨(E.tk[kt]? = none/\E.τ[kt]? = none/\cv = .slice none 0 0/\l.length=0)) /\
   bi[kt]? = some ⟨l.length + s.size,5,1,none⟩/\(∀ j,j≠kt->bi[j]? = E.tk[j]?)/\(∀ y:Value,∃ τ':List Value,τ'[kt]? = some y/\τ'.length=bi.length/\∀ j,j≠kt->τ'[j]? = E.τ[j]?):=by
  rcases hc with ⟨rfl,rfl,rfl,rfl⟩ | ⟨rfl,ib,rfl⟩
  ·have:=aN JN;subst this;refine ⟨_,rfl,⟨rfl,.inl ⟨rfl,rfl⟩⟩,by simp [Value.ownBlock],.inr ⟨?_,?_,rfl,rfl⟩,?_,?_,?_⟩
   ·rw [AD];simp
   ·rw [AD,<- h.env.tl];simp
   ·simp
   ·intro j hj;rw [h.tk];rcases Nat.lt_or_ge j st.tk.length with h1 | h1
    ·rw [List.getElem?_append_left h1]
    ·rw [List.getElem?_eq_none (l:=st.tk) h1];exact List.getElem?_eq_none (by simp;omega)
   ·intro y;refine ⟨E.τ ++ [y],?_,by simp [h.env.tl,h.tk],fun j hj=>?_⟩
    ·rw [AD,<- h.env.tl];simp
    ·rcases Nat.lt_or_ge j E.τ.length with h1 | h1
     ·rw [List.getElem?_append_left h1]
     ·rw [List.getElem?_eq_none (l:=E.τ) h1];have:=h.env.tl;exact List.getElem?_eq_none (by simp;omega)
  ·obtain ⟨bR,hτ,hob⟩:=Ie h ib JN;have mn:=(gS ib).1;refine ⟨_,rfl,bR,hob b qW,.inl ⟨_,by rw [h.tk];exact ib,hτ,rfl,rfl,rfl,rfl⟩,?_,?_,?_⟩
   ·rw [List.getElem?_set_self mn]
   ·intro j hj;rw [List.getElem?_set_ne (Ne.symm hj),h.tk]
   ·intro y;refine ⟨E.τ.set kt y,?_,by simp [h.env.tl,h.tk],fun j hj=>List.getElem?_set_ne (Ne.symm hj)⟩;rw [List.getElem?_set_self];rw [h.env.tl,<- AD];exact mn
 obtain ⟨xs,rfl,bR,aM,zE,PO,mS,hτ⟩:=key;refine (uU E b l.length pv cv v2 (Lib.byteCells l) w h2 LD hw bR aM hlen).mono ?_;rintro e w' ⟨rfl,g,cap,w2,JO,iU,ux,rfl⟩;obtain ⟨τ',MQ,L7,CI⟩:=hτ (.slice (some ⟨g,0,none⟩) (l.length + s.size) cap);have pQ:Rv E (.loc i 0) (.pointer (some ⟨b,0,none⟩)):=by unfold Rv;exact ⟨b,hb,rfl⟩
 have r1:Rel X E ⟨st.sl,st.bx.set i [.loc i 0,c],st.tk⟩ a (eB w b cv):=
  fl h aX hb (cs':=[.loc i 0,c]) (arr':=[.pointer (some ⟨b,0,none⟩),cv]) ⟨rvL_cons pQ (rvL_one JN),by
   intro v hv;simp only [List.mem_cons,List.not_mem_nil,or_false] at hv;rcases hv with rfl | rfl
   ·rfl
   ·exact ho v (by simp)⟩ ⟨_,hw⟩
 obtain ⟨r2,hext,ji⟩:=uT r1 aX zE hs (by omega) PO MQ L7 mS CI (tX bR aM) JO iU ux;have eF:(eB w b cv).heap[b]? = some (.cells #[.pointer (some ⟨b,0,none⟩),cv] 161 (0,0)):=cf hw
 have CJ:w2.heap[b]? = some (.cells #[.pointer (some ⟨b,0,none⟩),cv] 161 (0,0)):=by
  rw [iU.block b (bg eF) (fun e=>aM e.symm)];exact eF
 have LF:Rv (⟨fy E.c w2 g ((l.length + s.size) * 1),E.β,bi,τ'⟩:En) (.sl 1 (bD (l ++ s.data.toList)) (some kt)) (.slice (some ⟨g,0,none⟩) (l.length + s.size) cap):=by
  have oN:s.data.toList.length=s.size:=by rw [Array.length_toList];all_goals rfl
  unfold Rv;refine ⟨_,_,_,rfl,⟨by rw [nh,List.length_append,oN],?_⟩,fun _=>⟨rfl,?_⟩,?_⟩
  ·rcases JO.2 with ⟨hv,_⟩ | ⟨_,_,_,hv,_,_,oc,_⟩
   ·cases hv
   ·injection hv with _ _ i3
    omega
  ·refine rvEs_flat (arr:=Lib.byteCells (l ++ s.data.toList)) (FM _) (fun cs hcm=>?_) fun j u hj=>?_
   ·simp only [bD,List.mem_map] at hcm;obtain ⟨x,_,rfl⟩:=hcm;rfl
   ·simp only [ab,ao,Nat.zero_add];refine ji j u ?_;rw [strCells_eq];simpa [Lib.byteCells] using hj
  ·intro k' gg;cases gg;exact ⟨_,PO,Nat.le_refl _,fun _=>MQ⟩
 have r3:=fl r2 aX (i:=i) (b:=b) hb (cs':=[.loc i 0,.sl 1 (bD (l ++ s.data.toList)) (some kt)]) (arr':=[.pointer (some ⟨b,0,none⟩),.slice (some ⟨g,0,none⟩) (l.length + s.size) cap])
  ⟨rvL_cons (by unfold Rv;exact ⟨b,hb,rfl⟩) (rvL_one LF),by
   intro v hv;simp only [List.mem_cons,List.not_mem_nil,or_false] at hv
   rcases hv with rfl | rfl<;>rfl⟩ ⟨_,CJ⟩
 simp only [List.set_set] at r3;exact go_sound 4000 _ _ hk _ _ _ (aG r3 hd rd _ (hrd _))
theorem wN {w:World} {g n:Nat} (x:Addr):(w.freeze ⟨g,0,none⟩ n).cell? x=w.cell? x:=by
 unfold World.freeze;split
 ·rfl
 ·simp only [World.cell?,Array.getElem?_modify];by_cases hg:g=x.block
  ·subst hg;simp only [if_true]
   cases w.heap[x.block]? with
   | none=>rfl
   | some o=>
    cases o with
    | cells c e z=>simp only [Option.map_some]
    | _=>simp
  ·simp [hg]
theorem tY {w:World} {g n k:Nat} (h:k≠g):(w.freeze ⟨g,0,none⟩ n).heap[k]? = w.heap[k]?:=by
 unfold World.freeze;split
 ·rfl
 ·simp only [Array.getElem?_modify];rw [if_neg (Ne.symm h)]
theorem tZ {w:World} {g n:Nat}:(w.freeze ⟨g,0,none⟩ n).os=w.os/\(w.freeze ⟨g,0,none⟩ n).tape=w.tape/\(w.freeze ⟨g,0,none⟩ n).output=w.output/\(w.freeze ⟨g,0,none⟩ n).heap.size=w.heap.size:=by
 unfold World.freeze;split
 ·exact ⟨rfl,rfl,rfl,rfl⟩
 ·exact ⟨rfl,rfl,rfl,by simp⟩
theorem AE {X:Ctx} {st:St} {k:List It} (hP:X.P=Tryz.prog) {i kt d:Nat} {p:DV} {l:List UInt8} (hbt:(i,161)∈X.bt) (jT:st.bx[i]? = some [p,.sl 1 (bD l) (some kt)])
  (hl:l ≠ []) (ib:st.tk[kt]? = some ⟨l.length,5,1,none⟩) (gI:X.n0=0) (kz:X.m0=0) (hd:dq X.nt st.sl (some d)=true)
  (hk:go X 4000 k ⟨[(d,⟨[],.v (.string ⟨l.toArray⟩)⟩)],[],[]⟩) (aX:X.still=false:=by exact rfl):ct X 80 [.loc i 0] (some d) k st:=by
 refine ⟨?_,aX,fun E a w vs h hv=>?_⟩
 ·rw [hP];exact RI
 rw [hP];simp only [RvL] at hv;obtain ⟨v1,vr,rfl,h1,rfl⟩:=hv;unfold Rv at h1;obtain ⟨b,hb,rfl⟩:=h1;obtain ⟨b',ty,arr,cJ,hw,qP⟩:=h.env.cL i _ jT;rw [hb] at cJ;simp only [oI] at cJ;subst cJ;obtain ⟨IJ,qE⟩:=h.bt _ hbt b hb;rw [hw] at qE;simp only [oI,Obj.cells.injEq] at qE;have J6:ty=161:=qE.2.1;subst J6;obtain ⟨hr,ho⟩:=qP;simp only [RvL] at hr;obtain ⟨pv,r1,rfl,JL,cv,r2,rfl,JN,rfl⟩:=hr;obtain ⟨g,cap,cur,rfl,hg,oc,hcm,bE,htake,L8,hτ⟩:=yZ h hl ib JN;refine (LB b g cap pv l cur w hl hw hg oc hcm bE htake).mono ?_;rintro e w' ⟨rfl,rfl⟩;obtain ⟨k1,k2,k3,k4⟩:=tZ (w:=w.drew) (g:=g) (n:=l.length);have TV:X.E0.β=[]:=List.eq_nil_of_length_eq_zero (by rw [X.gI,gI]);have UL:X.E0.tk=[]:=List.eq_nil_of_length_eq_zero (by rw [X.kz,kz]);have sY:X.w0.heap.size<=g:=h.nw.tn kt _ g (by rw [UL];exact Nat.zero_le _) hτ rfl
 let E':En:=⟨E.c,[],[],[]⟩
 have bA:Rel X E' ⟨[],[],[]⟩ a (w.drew.freeze ⟨g,0,none⟩ l.length):={
  env:={
   len:=rfl
   tl:=rfl
   cL:=by simp
   inj:=List.nodup_nil
   sub:=fun x v hx=>by rw [wN];exact h.env.sub x v hx
   pc:=by simp [E']
   bQ:=by simp [E']
   gf:=by simp [E'] }
  tk:=rfl
  sz:=h.sz
  tm:=fun i x hx=>by cases hx
  df:=h.df
  nw:={
   c:=fun x v hx=>h.nw.c x v hx
   cn:=fun x v hx=>h.nw.cn x v hx
   β:=⟨[],by rw [TV];rfl,by simp⟩
   tk:=fun k q y hq _=>by rw [UL] at hq;simp at hq
   tn:=fun k y g' _ hy _=>by simp [E'] at hy
   l0:=h.nw.l0 }
  fr:=h.fr.bo k1 k2 k3 (by rw [k4];exact Nat.le_refl _) fun j hj=>by
   by_cases UM:j=g
   ·left;exact .inr (UM ▸ sY)
   ·right;exact tY UM
  sh:=kA aX
  bt:=fun p hp b hb=>by simp [E'] at hb }
 have vc:dq X.nt ([]:List (Nat × Sl)) (some d)=true:=by
  simp only [dq,Bool.and_eq_true] at hd ⊢;exact ⟨hd.1,rfl⟩
 exact go_sound 4000 _ _ hk _ _ _ (aG (st:=⟨[],[],[]⟩) bA vc (.v (.string ⟨l.toArray⟩)) _ (by unfold Rv;exact ⟨rfl,rfl⟩))
end Go.Proofs.YtfifjddnnmfeoaaGreat
set_option maxRecDepth 100000
namespace Go.Proofs.YtfifjddnnmfeoaaGreat
open Go Go.RowKit Go.Lib Dv Tryz
theorem ni {P:Program} {w:World} {ops:Array Oper} {rest:List Oper} {o:Oper} {a:Act} {Q:Exit->Act->World->Prop} (De:o.guard=none) (s x:Operand) (t:TypeId)
  (ho:o.op = .call { callee:=.builtin .append,args:=#[s,x],argTypes:=#[t,t] })
  (e:TypeId) (i:TypeInfo) (z:Value) (ht:P.underlying t=some (.slice e)) (hi:P.info? e=some i) (hz:i.zero=some z) (fu:i.size=1) (qL:i.bytes=1) (AW:z.cells.size=1)
  (v:Value) (n:Nat) (xs:List Value) (hs:a.eval s=v) (bR:w.ownsRow 0 e 1 v n xs)
  (ad:Addr) (m c:Nat) (news:List Value) (hx:a.eval x = .slice (some ad) m c) (hl:news.length=m * 1) (lg:∀ j u,news[j]? = some u->w.cell? (ad.add j)=some u) (h1:∀ u∈news,u.oneCell'=true)
  (hm:0 < m) (CA:n + m<=maxLen) (fv:(n + m) * 1<=140737488355328)
  (h:∀ g cap w',w'.ownsRow 0 e 1 (.slice (some ⟨g,0,none⟩) (n + m) cap) (n + m) (xs ++ news)->w.grownBy w' v.ownBlock->((v.ownBlock=some g)∨(w.heap.size<=g/\∀ k,k < w.heap.size->w'.heap[k]? = w.heap[k]?)) ->
   wpList P ops Q rest (a.put o.dst (.slice (some ⟨g,0,none⟩) (n + m) cap)) w'):wpList P ops Q (o :: rest) a w:=by
 refine wpList_plain De fun K hK=>?_;obtain ⟨g,cap,w',hr,h2,h3,h4⟩:=dp (P:=P) (w:=w) t o.type e i z 1 1 ht hi hz fu qL AW (by omega) v n xs bR ad m c news hl lg h1 hm CA fv;unfold Oper.wp execOp;simp only [ho,resolve,invoke,builtin,Sem.run_bind,Sem.run_pure,Result.andThen_ok,List.map_toArray,List.map_cons,List.map_nil,hs,hx,hr];exact hK _ _ (h g cap w' h2 h3 h4)
theorem JP (w:World) (o:Obj):(w.alloc o).heap.size=w.heap.size + 1:=World.size_alloc w o
set_option maxHeartbeats 2000000 in
theorem LG (b:Nat) (p v:Value) (n:Nat) (xs:List Value) (c:UInt8) (w:World) (hp:p = .pointer none∨p = .pointer (some ⟨b,0,none⟩)) (lO:w.heap[b]? = some (.cells #[p,v] 161 (0,0)))
  (bR:w.ownsRow 0 5 1 v n xs) (aM:v.ownBlock≠some b) (hlen:n + 1<=140737488355328) :
  Calls Tryz.prog 122 #[.pointer (some ⟨b,0,none⟩),.int .u8 c.toNat] w (yY .nilIface w b v n xs (ba [c])):=by
 obtain ⟨i0,hi,Ms,hz1,Mm⟩:=info_parts Tryz.laysBX.infoByte
 go_enter Tryz.func122,Tryz.ntmps122
 go_wp2_with (go_at_call 178;refine (qD b p v _ hp lO).mono ?_)
 rintro e w1 ⟨rfl,rfl⟩;have fD:(eB w b v).heap[b]? = some (.cells #[.pointer (some ⟨b,0,none⟩),v] 161 (0,0)):=cf lO;have wL:(eB w b v).ownsRow 0 5 1 v n xs:=tX bR aM;have c0:(eB w b v).cell? ⟨b,0,none⟩=some (.pointer (some ⟨b,0,none⟩)):=by rw [Lib.cell_of_heap fD];all_goals rfl
 have c1:(eB w b v).cell? ⟨b,1,none⟩=some v:=by rw [Lib.cell_of_heap fD];all_goals rfl
 have aq:b < (eB w b v).heap.size:=bg fD;obtain ⟨W1,FK⟩:∃ W1,W1=eB w b v:=⟨_,rfl⟩;rw [<- FK] at fD wL c0 c1 aq ⊢;have HW:=Lib.hid FK;clear FK
 go_wp2_with (at_builtin;refine ni rfl _ _ 159 rfl 5 i0 (.int .u8 0) Tryz.underlying159 hi Ms hz1 Mm rfl _ _ _ rfl (wL.alloc _) ⟨W1.heap.size,0,none⟩ 1 1 [.int .u8 c.toNat] rfl rfl ?c1 ?c2 (by omega) ?c3 ?c4 ?_)
 case c1=>
  intro j u hj
  match j,hj with
  | 0,hj=>simp at hj;subst hj;simp [Addr.add]
 case c2=>intro u hu;simp at hu;subst hu;rfl
 case c3=>unfold maxLen;omega
 case c4=>omega
 intro g cap w2 FL iU ux;have FN:W1.grownBy w2 v.ownBlock:=⟨iU.os,iU.tape,iU.output,by have:=iU.size;rw [JP] at this;omega,fun k hk aM=>(iU.block k (by rw [JP];omega) aM).trans (Lib.alloc_old W1 _ k hk)⟩;have SV:(v.ownBlock=some g)∨(W1.heap.size<=g/\∀ k,k < W1.heap.size->w2.heap[k]? = W1.heap[k]?):=ux.imp_right fun ⟨h1,h2⟩=>⟨by omega,fun k hk=>(h2 k (by omega)).trans (Lib.alloc_old W1 _ k hk)⟩
 have eF:w2.heap[b]? = some (.cells #[.pointer (some ⟨b,0,none⟩),v] 161 (0,0)):=by
  rw [FN.block b aq (fun e=>aM e.symm)];exact fD
 have d0:w2.cell? ⟨b,0,none⟩=some (.pointer (some ⟨b,0,none⟩)):=by rw [Lib.cell_of_heap eF];all_goals rfl
 have d1:w2.cell? ⟨b,1,none⟩=some v:=by rw [Lib.cell_of_heap eF];all_goals rfl
 have f1:w2.frozen? ⟨b,1,none⟩=false:=Lib.frozen_of_heap eF 1;clear iU ux
 go_wp2
 go_ret
 refine ⟨rfl,g,cap,w2,FL,by rw [<- HW.out];exact FN,by rw [<- HW.out];exact SV,?_⟩;rw [cS eF];rfl
set_option maxHeartbeats 2000000 in
theorem Ig (b g n cap:Nat) (p:Value) (cur:Array Value) (w:World) (hp:p = .pointer none∨p = .pointer (some ⟨b,0,none⟩)) (lO:w.heap[b]? = some (.cells #[p,.slice (some ⟨g,0,none⟩) n cap] 161 (0,0)))
  (hg:w.heap[g]? = some (.cells cur 5 (0,0))) (oc:n<=cap) (bE:cur.size=cap) (aM:g≠b) :
  Calls Tryz.prog 124 #[.pointer (some ⟨b,0,none⟩),.string ⟨#[]⟩] w fun e w'=>e = .returned (.tuple #[.int .i64 0,.nilIface])/\w'=eB w b (.slice (some ⟨g,0,none⟩) n cap):=by
 obtain ⟨i0,hi,Ms,hz1,Mm⟩:=info_parts Tryz.laysBX.infoByte
 go_enter Tryz.func124,Tryz.ntmps124
 go_wp2_with (go_at_call 178;refine (qD b p _ _ hp lO).mono ?_)
 rintro e w1 ⟨rfl,rfl⟩;obtain ⟨v,hv⟩:∃ v,v=Value.slice (some ⟨g,0,none⟩) n cap:=⟨_,rfl⟩;rw [<- hv] at lO ⊢;have fD:(eB w b v).heap[b]? = some (.cells #[.pointer (some ⟨b,0,none⟩),v] 161 (0,0)):=cf lO;have la:(eB w b v).heap[g]? = some (.cells cur 5 (0,0)):=by rw [bm aM];exact hg
 have c0:(eB w b v).cell? ⟨b,0,none⟩=some (.pointer (some ⟨b,0,none⟩)):=by rw [Lib.cell_of_heap fD];all_goals rfl
 have c1:(eB w b v).cell? ⟨b,1,none⟩=some v:=by rw [Lib.cell_of_heap fD];all_goals rfl
 have f1:(eB w b v).frozen? ⟨b,1,none⟩=false:=Lib.frozen_of_heap fD 1;obtain ⟨W1,FK⟩:∃ W1,W1=eB w b v:=⟨_,rfl⟩;rw [<- FK] at fD la c0 c1 f1 ⊢;have HW:=Lib.hid FK;clear FK
 go_wp2_with (at_builtin;refine y4 rfl _ _ 159 9 rfl 5 i0 Tryz.underlying159 Tryz.underlying9 hi hz1 g n cap cur hv la oc bE rfl ?_)
 rw [<- hv]
 go_wp2
 go_ret2
 refine ⟨rfl,?_⟩;rw [cS fD];exact (nP fD).trans HW.out
theorem FO {X:Ctx} {st:St} {k:List It} (hP:X.P=Tryz.prog) {i kt d:Nat} {p:DV} {l:List UInt8} (hbt:(i,161)∈X.bt) (jT:st.bx[i]? = some [p,.sl 1 (bD l) (some kt)])
  (hp:p = .v (.pointer none)∨p = .loc i 0) (hl:l ≠ []) (ib:st.tk[kt]? = some ⟨l.length,5,1,none⟩) (hd:dq X.nt st.sl (some d)=true)
  (hk:go X 4000 k ⟨(d,⟨[],.tup [.v (.int .i64 0),.v .nilIface]⟩) :: st.sl,st.bx.set i [.loc i 0,.sl 1 (bD l) (some kt)],st.tk⟩)
  (aX:X.still=false:=by exact rfl):ct X 124 [.loc i 0,.v (.string ⟨#[]⟩)] (some d) k st:=by
 refine ⟨by rw [hP];exact IV,aX,fun E a w vs h hv=>?_⟩;rw [hP];simp only [RvL] at hv;obtain ⟨v1,vr,rfl,h1,v2,vr2,rfl,h2,rfl⟩:=hv;have h2:=aN h2;subst h2;unfold Rv at h1;obtain ⟨b,hb,rfl⟩:=h1;obtain ⟨b',ty,arr,cJ,hw,qP⟩:=h.env.cL i _ jT;rw [hb] at cJ;simp only [oI] at cJ;subst cJ;obtain ⟨IJ,qE⟩:=h.bt _ hbt b hb;rw [hw] at qE;simp only [oI,Obj.cells.injEq] at qE;have J6:ty=161:=qE.2.1;subst J6;obtain ⟨hr,ho⟩:=qP;simp only [RvL] at hr;obtain ⟨pv,r1,rfl,JL,cv,r2,rfl,JN,rfl⟩:=hr;have pQ:Rv E (.loc i 0) (.pointer (some ⟨b,0,none⟩)):=by unfold Rv;exact ⟨b,hb,rfl⟩
 have LD:pv = .pointer none∨pv = .pointer (some ⟨b,0,none⟩):=by
  rcases hp with rfl | rfl
  ·exact .inl (aN JL)
  ·unfold Rv at JL;obtain ⟨b2,eF,rfl⟩:=JL;rw [hb] at eF;simp only [oI] at eF;subst eF;exact .inr rfl
 obtain ⟨g,cap,cur,rfl,hg,oc,hcm,bE,htake,L8,hτ⟩:=yZ h hl ib JN;refine (Ig b g l.length cap pv cur w LD hw hg oc (by omega) (fun e=>L8 (e ▸ mG hb))).mono ?_;rintro e w' ⟨rfl,rfl⟩
 have r1:Rel X E ⟨st.sl,st.bx.set i [.loc i 0,.sl 1 (bD l) (some kt)],st.tk⟩ a (eB w b (.slice (some ⟨g,0,none⟩) l.length cap)):=
  fl h aX hb (cs':=[.loc i 0,.sl 1 (bD l) (some kt)]) (arr':=[.pointer (some ⟨b,0,none⟩),.slice (some ⟨g,0,none⟩) l.length cap]) ⟨rvL_cons pQ (rvL_one JN),by
   intro v hv;simp only [List.mem_cons,List.not_mem_nil,or_false] at hv
   rcases hv with rfl | rfl<;>rfl⟩ ⟨_,hw⟩
 exact go_sound 4000 _ _ hk _ _ _ (aG r1 hd (.tup [.v (.int .i64 0),.v .nilIface]) _ (by unfold Rv;exact ⟨_,rfl,rvL_cons (by unfold Rv;exact ⟨rfl,rfl⟩) (rvL_one (by unfold Rv;exact ⟨rfl,rfl⟩))⟩))
theorem fX {X:Ctx} {st:St} {k:List It} (hP:X.P=Tryz.prog) {i kt d:Nat} {p:DV} {l:List UInt8} {s:ByteArray} (l':List UInt8) (uB:l'=l ++ s.data.toList) (hbt:(i,161)∈X.bt) (jT:st.bx[i]? = some [p,.sl 1 (bD l) (some kt)])
  (hp:p = .v (.pointer none)∨p = .loc i 0) (ib:st.tk[kt]? = some ⟨l.length,5,1,none⟩) (hs:l' ≠ []) (hlen:l'.length<=140737488355328) (hd:dq X.nt st.sl (some d)=true)
  (hk:∀ n:Int,go X 4000 k ⟨(d,⟨[],.tup [.v (.int .i64 n),.v .nilIface]⟩) :: st.sl,st.bx.set i [.loc i 0,.sl 1 (bD l') (some kt)],st.tk.set kt ⟨l'.length,5,1,none⟩⟩)
  (aX:X.still=false:=by exact rfl):ct X 124 [.loc i 0,.v (.string s)] (some d) k st:=by
 subst uB;have oN:s.data.toList.length=s.size:=by rw [Array.length_toList];all_goals rfl
 have mn:=(gS ib);rcases Nat.eq_zero_or_pos s.size with h0 | h0
 ·have uY:s=⟨#[]⟩:=by
   apply ByteArray.ext;apply Array.eq_empty_of_size_eq_zero;exact h0
  subst uY;have hr:=hk 0;simp only [List.append_nil] at hr hs;rw [show st.tk.set kt ⟨l.length,5,1,none⟩=st.tk by rw [<- mn.2];exact List.set_getElem_self mn.1] at hr;exact FO hP hbt jT hp hs ib hd hr aX
 ·refine wM (s:=s) hP hbt jT hp (.inr ⟨rfl,ib,rfl⟩) IV (rd:=.tup [.v (.int .i64 s.size),.v .nilIface]) (ret:=.tuple #[.int .i64 s.size,.nilIface]) (fun E=>by unfold Rv;exact ⟨_,rfl,rvL_cons (by unfold Rv;exact ⟨rfl,rfl⟩) (rvL_one (by unfold Rv;exact ⟨rfl,rfl⟩))⟩)
   (fun E b n p v x xs w hx h1 h2 h3 h4 h5=>by
    have:=aN hx;subst this
    exact LA b p v n xs s w h1 h2 h3 h4 h0 h5) h0 (by rw [List.length_append,oN] at hlen;exact hlen) hd ?_ aX
  have hr:=hk s.size;rw [List.length_append,oN] at hr;exact hr
theorem AF {X:Ctx} {st:St} {k:List It} (hP:X.P=Tryz.prog) {i kt d:Nat} {p:DV} {l:List UInt8} {c:UInt8} {z:Int} (hz:z=c.toNat) (hbt:(i,161)∈X.bt) (jT:st.bx[i]? = some [p,.sl 1 (bD l) (some kt)])
  (hp:p = .v (.pointer none)∨p = .loc i 0) (ib:st.tk[kt]? = some ⟨l.length,5,1,none⟩) (hlen:l.length + 1<=140737488355328) (hd:dq X.nt st.sl (some d)=true)
  (hk:go X 4000 k ⟨(d,⟨[],.v .nilIface⟩) :: st.sl,st.bx.set i [.loc i 0,.sl 1 (bD (l ++ [c])) (some kt)],st.tk.set kt ⟨l.length + 1,5,1,none⟩⟩)
  (aX:X.still=false:=by exact rfl):ct X 122 [.loc i 0,.v (.int .u8 z)] (some d) k st:=by
 subst hz
 refine wM (s:=ba [c]) hP hbt jT hp (.inr ⟨rfl,ib,rfl⟩) NA (rd:=.v .nilIface) (ret:=.nilIface) (fun E=>by unfold Rv;exact ⟨rfl,rfl⟩)
  (fun E b n p v x xs w hx h1 h2 h3 h4 h5=>by
   have:=aN hx;subst this
   exact LG b p v n xs c w h1 h2 h3 h4 h5) Nat.one_pos hlen hd hk aX
theorem wO {X:Ctx} {f:FuncId} {args:List DV} {dst:Option Nat} {k:List It} {st:St} (q:TkE) (st':St) (hq:q.new=true) (ha:WeL st.bx.length st.tk.length (st.tk ++ [q]) args args) (h3:st'.tk=st.tk ++ [q]) (h2:WeLL st.bx.length st.tk.length (st.tk ++ [q]) st.bx st'.bx)
  (h:lB st.bx.length st.tk.length (st.tk ++ [q]) st.sl st'.sl) (hn:Nat.ble X.n0 st.bx.length=true) (hm:Nat.ble X.m0 st.tk.length=true) (hk:ct X f args dst k st'):ct X f args dst k st:=by
 obtain ⟨k1,k2,k3⟩:=hk;refine ⟨k1,k2,fun E a w vs hR hv=>?_⟩;have hr:=rB (st':=st') hR (kept:=st.tk) (dropped:=[]) (new:=[q]) (b0:=st.bx) (r:=[]) ⟨nL hm,nL hn,by simp,h3,by simpa using hq,by simp,by rw [h3];exact h2,by rw [h3];exact h⟩;exact k3 _ a w vs hr (mF (dropped:=[]) (by rw [hR.tk];simp) hR.env.tl (by simpa using hq) ha hv)
end Go.Proofs.YtfifjddnnmfeoaaGreat
set_option maxRecDepth 100000
namespace Go.Proofs.YtfifjddnnmfeoaaGreat
open Go Go.RowKit Dv Tryz
def jH (n:Nat):UInt8:=if n < 10 then UInt8.ofNat (48 + n) else UInt8.ofNat (87 + n)
def q7 (n:Nat):List UInt8:=if n=0 then [] else q7 (n / 16) ++ [jH (n % 16)]
termination_by n
decreasing_by omega
def gh (n:Nat):List UInt8:=q7 (n / 16) ++ [jH (n % 16)]
theorem hexP_0:q7 0=[]:=by rw [q7,if_pos rfl]
theorem FP {n:Nat} (h:n≠0):q7 n=gh n:=by rw [q7,if_neg h];all_goals rfl
theorem wP:∀ (k n:Nat),n < 16 ^ k->(q7 n).length<=k
 | 0,n,h=>by
  have:n=0:=by simpa using h
  rw [this,hexP_0];exact Nat.le_refl _
 | k + 1,n,h=>by
  by_cases hn:n=0
  ·rw [hn,hexP_0];simp
  ·rw [q7,if_neg hn,List.length_append];have:=wP k (n / 16) (by rw [Nat.div_lt_iff_lt_mul (by decide)];rw [Nat.pow_succ] at h;exact h);simp only [List.length_cons,List.length_nil];omega
theorem jI {n:Nat} (h:n<=4294967295):(gh n).length<=8:=by
 have:=wP 7 (n / 16) (by omega);simp only [gh,List.length_append,List.length_cons,List.length_nil];omega
def ua:List (List DV):=[[.v (.int .i32 0),.v (.int .i32 31)],[.v (.int .i32 127),.v (.int .i32 159)]]
def ub:List (List DV):=[[.v (.int .i32 8232),.v (.int .i32 8233)]]
def jJ:List (List DV):=[(1564,1564),(8206,8207),(8234,8238),(8294,8297)].map fun p:Int × Int=>[DV.v (.int .i32 p.1),DV.v (.int .i32 p.2)]
def qF:List (List DV):=[(173,173),(1536,1541),(1757,1757),(1807,1807),(2274,2274),(6158,6158),(8203,8205),(8288,8292),(8298,8303),(65279,65279),(65529,65531),(69821,69821),(69837,69837),(113824,113827),(119155,119162),(917505,917505),(917536,917631)].map fun p:Int × Int=>[DV.v (.int .i32 p.1),DV.v (.int .i32 p.2)]
def uc (z:Int):Bool:=((ua.any (gG z) || jJ.any (gG z)) || qF.any (gG z)) || ub.any (gG z)
def q8 (z:Int) (u:List UInt8):List UInt8:=
 if z=34 then [92,34] else if z=92 then [92,92] else if z=9 then [92,116] else if z=10 then [92,110] else if z=13 then [92,114]
 else if uc z=true then [92,117,123] ++ gh z.toNat ++ [125] else u
def AG:List UInt8->List UInt8
 | []=>[]
 | c :: r=>if ja (c :: r)=true then q8 (recV ((c :: r).take (jG (c :: r)))) ((c :: r).take (jG (c :: r))) else [92,120,jH (c.toNat / 16),jH (c.toNat % 16)]
def jK:Nat->List UInt8->List UInt8
 | 0,_=>[]
 | k + 1,l=>AG l ++ jK k (l.drop (jG l))
def kX (l:List UInt8):List UInt8:=34 :: (jK l.length l ++ [34])
theorem wQ (k:Nat):jK k []=[]:=by
 induction k with
 | zero=>rfl
 | succ k ih=>show [] ++ jK k ([].drop _)=[];rw [List.drop_nil,ih];all_goals rfl
theorem nj:∀ (n:Nat) (l:List UInt8),l.length<=n->jK n l=jK l.length l
 | 0,l,h=>by
  have:l=[]:=List.eq_nil_of_length_eq_zero (by omega);rw [this];all_goals rfl
 | n + 1,l,h=>by
  cases l with
  | nil=>rw [wQ,wQ]
  | cons c r=>
   obtain ⟨h1,h2⟩:=oB (l:=c :: r) (by simp);have hl:((c :: r).drop (jG (c :: r))).length=r.length + 1 - jG (c :: r):=by rw [List.length_drop,List.length_cons]
   rw [List.length_cons] at h h2;show AG _ ++ jK n _=AG _ ++ jK r.length _;rw [nj n _ (by omega),nj r.length _ (by omega)]
theorem Cj {l:List UInt8} (h:l ≠ []):jK l.length l=AG l ++ jK (l.drop (jG l)).length (l.drop (jG l)):=by
 cases l with
 | nil=>exact absurd rfl h
 | cons c r=>
  obtain ⟨h1,h2⟩:=oB (l:=c :: r) (by simp);show AG _ ++ jK r.length _=_;rw [nj r.length _ (by rw [List.length_drop,List.length_cons];omega)]
theorem ue {l:List UInt8} (h:Fw l=true):0<=recV l/\recV l<=2097151:=by
 unfold Fw at h;split at h<;>(first | (rw [decide_eq_true_iff] at h;simp only [recV];omega) | cases h)
theorem Ih (l:List UInt8):(AG l).length<=12:=by
 cases l with
 | nil=>exact Nat.zero_le _
 | cons c r=>
  show (if ja (c :: r)=true then q8 (recV ((c :: r).take (jG (c :: r)))) ((c :: r).take (jG (c :: r))) else [92,120,jH (c.toNat / 16),jH (c.toNat % 16)]:List UInt8).length<=12;split
  ·rename_i h;have hi:=tS h;obtain ⟨_,_,LH,h1,h2,h3⟩:=j6 h;injection LH with A9 j8
   subst A9 j8;rw [h3];have h4:=tT c.toNat;have:=ue hi;have:=jI (n:=(recV ((c :: r).take (av c.toNat))).toNat) (by omega);unfold q8
   repeat' split
   all_goals simp only [List.length_append,List.length_cons,List.length_nil,List.length_take]
   all_goals omega
  ·simp
theorem wR:∀ (n:Nat) (l:List UInt8),(jK n l).length<=12 * n
 | 0,l=>Nat.zero_le _
 | n + 1,l=>by
  have h1:=Ih l;have h2:=wR n (l.drop (jG l));show (AG l ++ jK n (l.drop (jG l))).length<=_;rw [List.length_append];omega
theorem jL (l:List UInt8):(kX l).length<=12 * l.length + 2:=by
 have:=wR l.length l;simp only [kX,List.length_append,List.length_cons,List.length_nil];omega
theorem nk {s:ByteArray} (hs:s=ba [48,49,50,51,52,53,54,55,56,57,97,98,99,100,101,102]) {k:Nat} (hk:k < 16) {a b:Int} (ha:a=k) (hb:b=k + 1):s.extract a.toNat b.toNat=ba [jH k]:=by
 subst hs ha hb;refine pF ?_;have:∀ k:Fin 16,tx ((ba [48,49,50,51,52,53,54,55,56,57,97,98,99,100,101,102]).extract k.val (k.val + 1))=[jH k.val]:=by decide +kernel
 exact this ⟨k,hk⟩
theorem uf {n:Int} (h1:0<=n) (h2:n<=4294967295):IntKind.u32.wrap n=n:=by
 simp [IntKind.wrap,IntKind.min,IntKind.max,IntKind.signed,IntKind.bits];omega
theorem eO (n:Nat):(n:Int).tmod 16=((n % 16:Nat):Int):=by
 rw [Int.tmod_eq_emod_of_nonneg (by omega)];omega
theorem AH (n:Nat):(n:Int).tdiv 16=((n / 16:Nat):Int):=by
 rw [Int.tdiv_eq_ediv_of_nonneg (by omega)];omega
theorem FQ {x:ByteArray} {c:UInt8} {l:List UInt8} (h:x=ba [c]):x ++ ba l=ba (c :: l):=by
 rw [h];exact cN [c] l
abbrev LI (m:Nat) (l:List UInt8):St:=⟨[(0,⟨[],.v (.int .u32 m)⟩),(3,⟨[],.v (.string (ba l))⟩)],[],[]⟩
theorem FR (n:Nat) (hn:n<=4294967295):EvP Tryz.prog 182 [.v (.int .u32 n)] (.v (.string (ba (gh n)))):=by
 have hu:∀ m:Nat,m<=4294967295->IntKind.u32.wrap ((m:Int).tdiv 16)=((m / 16:Nat):Int):=fun m h=>by rw [AH,uf (by omega) (by omega)]
 have hr:∀ m:Nat,IntKind.u32.wrap ((m:Int).tmod 16 + 1)=((m % 16:Nat):Int) + 1:=fun m=>by rw [eO,uf (by omega) (by omega)]
 have hlen:=jI hn;refine ev_go (P:=Tryz.prog) tt tt_ok 5000 25 [.tmp 2] Tryz.func182 rfl Tryz.ntmps182 rfl (nL rfl) (fun E9 w9 hn9 hm9=>?_);refine ⟨⟨rfl,by decide⟩,?_⟩;refine ⟨⟨rfl,by decide⟩,?_⟩;refine ⟨⟨by rw [eO];omega,by rw [hr,eO];omega,by rw [hr];show _<=((16:Nat):Int);omega⟩,?_⟩;refine ⟨⟨rfl,by decide⟩,?_⟩;refine aw (fun j st=>∃ (m:Nat) (l:List UInt8),st=LI m l/\q7 m ++ l=gh n/\m<=n/\j=m) (n / 16) (LI (n / 16) [jH (n % 16)]) (weak_mk ⟨_,rfl⟩ wA rfl rfl rfl (by repeat' (first | exact trivial | exact ai rfl | exact aj (hu n hn) | exact tw (nk rfl (by omega) (eO n) (hr n)) | refine ⟨⟨_,rfl,?_⟩,?_⟩))) ⟨n / 16,_,rfl,rfl,by omega,rfl⟩ ?_;rintro m st ⟨_,l,rfl,ht,hm,rfl⟩;refine br (fun hL=>?_) (fun hL=>?_)
 ·have ke:m≠0:=by simp at hL;omega
  have Qz:l.length + (q7 m).length<=8:=by
   rw [<- ht,List.length_append] at hlen;omega
  rw [FP ke] at ht;refine ⟨⟨rfl,by decide⟩,?_⟩;refine ⟨⟨rfl,by decide⟩,?_⟩;refine ⟨⟨by rw [eO];omega,by rw [hr,eO];omega,by rw [hr];show _<=((16:Nat):Int);omega⟩,?_⟩;have hx:=nk (s:=ba [48,49,50,51,52,53,54,55,56,57,97,98,99,100,101,102]) rfl (k:=m % 16) (by omega) (eO m) (hr m)
  refine ⟨by
   have h1:(ByteArray.extract (ba [48,49,50,51,52,53,54,55,56,57,97,98,99,100,101,102]) ((m:Int).tmod 16).toNat (IntKind.u32.wrap ((m:Int).tmod 16 + 1)).toNat).size=1:=by rw [hx];all_goals rfl
   have h2:(ba l).size=l.length:=Ac l;have h3:∀ a b:Nat,a=1->b<=8->a + b<=9223372036854775807:=by omega
   exact h3 _ _ h1 (by rw [h2];omega),?_⟩
  refine ⟨⟨rfl,by decide⟩,?_⟩;exact ⟨LI (m / 16) (jH (m % 16) :: l),(weak_mk ⟨_,rfl⟩ wA rfl rfl rfl (by repeat' (first | exact trivial | exact ai rfl | exact aj (hu m (by omega)) | exact tw (FQ hx) | refine ⟨⟨_,rfl,?_⟩,?_⟩))),m / 16,by omega,m / 16,_,rfl,by rw [<- ht];simp [gh],by omega,rfl⟩
 ·have h0:m=0:=by simp at hL;omega
  subst h0;rw [hexP_0,List.nil_append] at ht;rw [<- ht];exact (rfl:_=_)
def gH (z:Int):List UInt8:=if z=34 then [92,34] else if z=92 then [92,92] else if z=9 then [92,116] else if z=10 then [92,110] else if z=13 then [92,114] else []
theorem y5 (z:Int):EvP Tryz.prog 180 [.v (.int .i32 z)] (.v (.string (ba (gH z)))):=by
 unfold gH;refine ev_go (P:=Tryz.prog) tt tt_ok 5000 14 [.tmp 2] Tryz.func180 rfl Tryz.ntmps180 rfl (nL rfl) (fun E9 w9 hn9 hm9=>?_);refine br (fun c=>?_) (fun c=>?_)
 ·rw [if_pos (by simpa using c)];exact (rfl:_=_)
 rw [if_neg (by simpa using c)];refine br (fun c=>?_) (fun c=>?_)
 ·rw [if_pos (by simpa using c)];exact (rfl:_=_)
 rw [if_neg (by simpa using c)];refine br (fun c=>?_) (fun c=>?_)
 ·rw [if_pos (by simpa using c)];exact (rfl:_=_)
 rw [if_neg (by simpa using c)];refine br (fun c=>?_) (fun c=>?_)
 ·rw [if_pos (by simpa using c)];exact (rfl:_=_)
 rw [if_neg (by simpa using c)];refine br (fun c=>?_) (fun c=>?_)
 ·rw [if_pos (by simpa using c)];exact (rfl:_=_)
 rw [if_neg (by simpa using c)];exact (rfl:_=_)
theorem y6 {z:Int} {u:List UInt8} (h:gH z ≠ []):q8 z u=gH z:=by
 unfold q8 gH at *
 repeat' split at h
 all_goals simp_all
theorem Ck {z:Int} {u:List UInt8} (h:gH z=[]):q8 z u=if uc z=true then [92,117,123] ++ gh z.toNat ++ [125] else u:=by
 unfold q8 gH at *
 repeat' split at h
 all_goals simp_all
theorem ug:EvP Tryz.prog 264 [] (.sl 2 ua none):=by
 refine ev_go (P:=Tryz.prog) tt tt_ok 5000 4 [.tmp 0] Tryz.func264 rfl Tryz.ntmps264 rfl (nL rfl) (fun E9 w9 hn9 hm9=>?_);exact ⟨_,ax,rfl⟩
theorem Cl:EvP Tryz.prog 265 [] (.sl 2 jJ none):=by
 refine ev_go (P:=Tryz.prog) tt tt_ok 5000 6 [.tmp 0] Tryz.func265 rfl Tryz.ntmps265 rfl (nL rfl) (fun E9 w9 hn9 hm9=>?_);exact ⟨_,ax,rfl⟩
theorem wS:EvP Tryz.prog 266 [] (.sl 2 qF none):=by
 refine ev_go (P:=Tryz.prog) tt tt_ok 5000 19 [.tmp 0] Tryz.func266 rfl Tryz.ntmps266 rfl (nL rfl) (fun E9 w9 hn9 hm9=>?_);exact ⟨_,ax,rfl⟩
theorem qG:EvP Tryz.prog 267 [] (.sl 2 ub none):=by
 refine ev_go (P:=Tryz.prog) tt tt_ok 5000 3 [.tmp 0] Tryz.func267 rfl Tryz.ntmps267 rfl (nL rfl) (fun E9 w9 hn9 hm9=>?_);exact ⟨_,ax,rfl⟩
theorem wT:EvP Tryz.prog 229 [] (.sl 2 jJ none):=by
 refine ev_go (P:=Tryz.prog) tt tt_ok 5000 6 [.tmp 0] Tryz.func229 rfl Tryz.ntmps229 rfl (nL rfl) (fun E9 w9 hn9 hm9=>?_);exact ⟨_,ax,rfl⟩
theorem ra:EvP Tryz.prog 230 [] (.sl 2 qF none):=by
 refine ev_go (P:=Tryz.prog) tt tt_ok 5000 19 [.tmp 0] Tryz.func230 rfl Tryz.ntmps230 rfl (nL rfl) (fun E9 w9 hn9 hm9=>?_);exact ⟨_,ax,rfl⟩
theorem me (es:List (List DV)) (z:Int) (hl:es.length<=1000) (hs:es.all spB=true) (m:Int) (ho:srtB m es=true):EvP Tryz.prog 263 [.sl 2 es none,.v (.int .i32 z)] (.v (.bool (es.any (gG z)))):=
 (tW es z hl hs).mono fun d _ _ ⟨b,h1,h2⟩=>by rw [h1,h2 m ho]
theorem sD (es:List (List DV)) (z:Int) (hl:es.length<=1000) (hs:es.all spB=true) (h0:0<=z) (h1:z<=1114111):EvP Tryz.prog 228 [.sl 2 es none,.v (.int .i32 z)] (.v (.bool (es.any (gG z)))):=
 (yX es z hl hs).mono fun d _ _ ⟨b,h2,h3⟩=>by rw [h2,h3 h0 h1]
theorem wU (z:Int):EvP Tryz.prog 181 [.v (.int .i32 z)] (.v (.bool (uc z))):=by
 have hk:Ev Tryz.prog 222 [.v (.int .i32 z)] [] [] (fun d _ _=>∃ k:Int,d = .v (.int .i64 k)/\(!decide (k=0))=uc z):=by
  have h1:=me ua z (by decide) (by decide) (-1) (by decide);have h2:=me jJ z (by decide) (by decide) (-1) (by decide);have h3:=me qF z (by decide) (by decide) (-1) (by decide);have h4:=me ub z (by decide) (by decide) (-1) (by decide);have hB:uc z=(((ua.any (gG z) || jJ.any (gG z)) || qF.any (gG z)) || ub.any (gG z)):=rfl;rw [hB];generalize ua.any (gG z)=b1 at h1;generalize jJ.any (gG z)=b2 at h2;generalize qF.any (gG z)=b3 at h3;generalize ub.any (gG z)=b4 at h4;generalize QU:ua=T1 at h1;generalize SX:jJ=T2 at h2;generalize SY:qF=T3 at h3;generalize hT4:ub=T4 at h4;have c1:=ug;have c2:=Cl;have c3:=wS;have c4:=qG;rw [QU] at c1;rw [SX] at c2;rw [SY] at c3;rw [hT4] at c4;refine ev_go (P:=Tryz.prog) tt tt_ok 5000 19 [.tmp 2] Tryz.func222 rfl Tryz.ntmps222 rfl (nL rfl) (fun E9 w9 hn9 hm9=>?_);refine call_p N9 (c1) ax rfl ?_;refine call_p rI (h1) ax rfl ?_
  cases b1 with
  | true=>exact ⟨_,rfl,rfl⟩
  | false=>
  refine call_p Oa (c2) ax rfl ?_;refine call_p rI (h2) ax rfl ?_
  cases b2 with
  | true=>exact ⟨_,rfl,rfl⟩
  | false=>
  refine call_p Ob (c3) ax rfl ?_;refine call_p rI (h3) ax rfl ?_
  cases b3 with
  | true=>exact ⟨_,rfl,rfl⟩
  | false=>
  refine call_p Oc (c4) ax rfl ?_;refine call_p rI (h4) ax rfl ?_
  cases b4 with
  | true=>exact ⟨_,rfl,rfl⟩
  | false=>exact ⟨_,rfl,rfl⟩
 refine ev_go (P:=Tryz.prog) tt tt_ok 5000 6 [.tmp 2] Tryz.func181 rfl Tryz.ntmps181 rfl (nL rfl) (fun E9 w9 hn9 hm9=>?_);refine bP N1 rfl hk ax (fun q hq=>?_);obtain ⟨k,rfl,hk⟩:=hq;refine (congrArg (fun b=>DV.v (.bool b)) ?_:_=_);exact hk
theorem wV (z:Int) (h0:0<=z) (h1:z<=1114111):Ev Tryz.prog 189 [.v (.int .i32 z)] [] [] (fun d _ _=>∃ k:Int,d = .v (.int .i64 k)/\(!decide (k=0))=uc z):=by
 have h2:=sD jJ z (by decide) (by decide) h0 h1;have h3:=sD qF z (by decide) (by decide) h0 h1;have hB:uc z=(((ua.any (gG z) || jJ.any (gG z)) || qF.any (gG z)) || ub.any (gG z)):=rfl
 have e1:ua.any (gG z)=(decide (0<=z) && decide (z < 32) || decide (126 < z) && decide (z < 160)):=by
  simp only [ua,List.any_cons,List.any_nil,gG,Bool.or_false];rw [Bool.eq_iff_iff];simp only [Bool.or_eq_true,Bool.and_eq_true,decide_eq_true_iff];omega
 have e4:ub.any (gG z)=(decide (z=8232) || decide (z=8233)):=by
  simp only [ub,List.any_cons,List.any_nil,gG,Bool.or_false];rw [Bool.eq_iff_iff];simp only [Bool.or_eq_true,Bool.and_eq_true,decide_eq_true_iff];omega
 rw [hB,e1,e4];generalize jJ.any (gG z)=b2 at h2;generalize qF.any (gG z)=b3 at h3;generalize SX:jJ=T2 at h2;generalize SY:qF=T3 at h3;have c2:=wT;have c3:=ra;rw [SX] at c2;rw [SY] at c3;refine ev_go (P:=Tryz.prog) tt tt_ok 5000 29 [.tmp 2] Tryz.func189 rfl Tryz.ntmps189 rfl (nL rfl) (fun E9 w9 hn9 hm9=>?_);refine br (fun c=>?_) (fun c=>?_)
 ·refine ⟨_,rfl,?_⟩;simp only [pickB_and,ak] at c;rw [c];all_goals rfl
 simp only [pickB_and,ak] at c;rw [c];refine call_p N3 (c2) ax rfl ?_;refine call_p Jb (h2) ax rfl ?_
 cases b2 with
 | true=>exact ⟨_,rfl,rfl⟩
 | false=>
 refine call_p N4 (c3) ax rfl ?_;refine call_p Jb (h3) ax rfl ?_
 cases b3 with
 | true=>exact ⟨_,rfl,rfl⟩
 | false=>
 refine br (fun c=>?_) (fun c=>?_)
 ·refine ⟨_,rfl,?_⟩;simp only [ak] at c;rw [c];all_goals rfl
 ·refine ⟨_,rfl,?_⟩;simp only [ak] at c;rw [c];all_goals rfl
theorem iM:∀ (k n:Nat),n<=k->n<=4294967295->EvP Tryz.prog 188 [.v (.int .i64 n)] (.v (.string (ba (gh n))))
 | k,n,hk,hn=>by
  have hlen:=jI hn;have hq:IntKind.i64.wrap ((n:Int).tdiv 16)=((n / 16:Nat):Int):=by rw [AH];exact wrap64 (by omega) (by omega)
  have hr:IntKind.i64.wrap ((n:Int).tmod 16 + 1)=((n % 16:Nat):Int) + 1:=by rw [eO];exact wrap64 (by omega) (by omega)
  have hw:IntKind.i64.wrap ((n:Int) + 1)=(n:Int) + 1:=wrap64 (by omega) (by omega);refine ev_go (P:=Tryz.prog) tt tt_ok 5000 22 [.tmp 2] Tryz.func188 rfl Tryz.ntmps188 rfl (nL rfl) (fun E9 w9 hn9 hm9=>?_);refine br (fun c=>?_) (fun c=>?_)
  ·have c:n < 16:=by simp at c;omega
   refine ⟨⟨by omega,by rw [hw];omega,by rw [hw];show _<=((16:Nat):Int);omega⟩,?_⟩;refine (congrArg (fun s=>DV.v (.string s)) ?_:_=_);refine (nk rfl c rfl hw).trans ?_;have:n / 16=0:=by omega
   rw [gh,this,hexP_0,Nat.mod_eq_of_lt c];all_goals rfl
  ·have c:¬ n < 16:=by simp at c;omega
   match k,hk with
   | 0,hk=>omega
   | k + 1,hk=>
    have ih:=iM k (n / 16) (by omega) (by omega);rw [<- hq] at ih;have hx:=nk (s:=ba [48,49,50,51,52,53,54,55,56,57,97,98,99,100,101,102]) rfl (k:=n % 16) (by omega) (eO n) hr;have he:gh n=gh (n / 16) ++ [jH (n % 16)]:=by rw [<- FP (n:=n / 16) (by omega)];all_goals rfl
    rw [he,List.length_append] at hlen;refine aR (fun _=>false) mo (by decide +kernel) ?_;refine ⟨⟨rfl,by decide⟩,?_⟩;refine cr zV (ih) ax rfl ?_;refine ⟨⟨rfl,by decide⟩,?_⟩;refine ⟨⟨rfl,by decide⟩,?_⟩;refine ⟨⟨by rw [eO];omega,by rw [hr,eO];omega,by rw [hr];show _<=((16:Nat):Int);omega⟩,?_⟩
    refine ⟨by
     have h1:=congrArg ByteArray.size hx;rw [Ac] at h1;have h3:∀ a b:Nat,b=1->a<=8->a + b<=9223372036854775807:=by omega
     exact h3 _ _ h1 (by rw [Ac];omega),?_⟩
    refine (congrArg (fun s=>DV.v (.string s)) ?_:_=_);rw [he];refine (congrArg (fun s=>ba (gh (n / 16)) ++ s) hx).trans ?_;exact cN _ _
theorem y7 {n:Int} (h1:0<=n) (h2:n<=255):IntKind.u8.wrap n=n:=by
 simp [IntKind.wrap,IntKind.min,IntKind.max,IntKind.signed,IntKind.bits];omega
theorem wW {s:ByteArray} {aC:Nat} (h:aC < s.size):∃ c r,(tx s).drop aC=c :: r/\bU s aC=c.toNat/\r.length + 1 + aC=s.size/\∀ n,n<=r.length + 1->s.extract aC (aC + n)=ba ((c :: r).take n):=by
 have hl:=bc s
 cases hd:(tx s).drop aC with
 | nil=>
  have:=congrArg List.length hd;rw [List.length_drop,List.length_nil] at this;omega
 | cons c r=>
  refine ⟨c,r,rfl,?_,?_,fun n hn=>?_⟩
  ·show ((tx s).getD aC 0).toNat=_
   have:(tx s)[aC]? = some c:=by
    have:=congrArg (fun l=>l[0]?) hd;simpa [List.getElem?_drop] using this
   simp [List.getD_eq_getElem?_getD,this]
  ·have:=congrArg List.length hd;rw [List.length_drop,List.length_cons] at this;omega
  ·refine pF ?_;rw [<- hd];simp [tx,List.take_drop]
theorem AJ {x y:ByteArray} {c d:UInt8} (hx:x=ba [c]) (hy:y=ba [d]):(ba [92,120] ++ x) ++ y=ba [92,120,c,d]:=by
 rw [hx,hy];exact (congrArg (·++ ba [d]) (cN [92,120] [c])).trans (cN _ _)
theorem AK (l:List UInt8):(ba [92,117,123] ++ ba l) ++ ba [125]=ba ([92,117,123] ++ l ++ [125]):=
 (congrArg (·++ ba [125]) (cN [92,117,123] l)).trans (cN _ _)
theorem kY {a b:ByteArray} {d:DV} (h:a=b):DV.tup [.v (.string a),d]=DV.tup [.v (.string b),d]:=by rw [h]
set_option maxHeartbeats 1000000 in
theorem y8 (s:ByteArray) (aC:Nat) (hs:s.size<=1099511627776) (h:aC < s.size) :
  EvP Tryz.prog 123 [.v (.string s),.v (.int .i64 aC)] (.tup [.v (.string (ba (AG ((tx s).drop aC)))),.v (.int .i64 (jG ((tx s).drop aC):Nat))]):=by
 obtain ⟨c,r,hd,hb,eV,hex⟩:=wW h;have hu:=sC s aC hs c r hd;rw [hd];have Dp:jG (c :: r)=if ja (c :: r)=true then av c.toNat else 1:=rfl
 have PQ:AG (c :: r)=if ja (c :: r)=true then q8 (recV ((c :: r).take (jG (c :: r)))) ((c :: r).take (jG (c :: r))) else [92,120,jH (c.toNat / 16),jH (c.toNat % 16)]:=rfl
 have rM:=tS (c:=c) (r:=r);have cj:=fun g=>j6 (l:=c :: r) g;have ia:=c.toNat_lt;rw [Dp] at PQ;rw [Dp,PQ];generalize ja (c :: r)=ok at hu rM cj ⊢;refine ev_go (P:=Tryz.prog) tt tt_ok 5000 62 [.tmp 4,.tmp 5] Tryz.func123 rfl Tryz.ntmps123 rfl (nL rfl) (fun E9 w9 hn9 hm9=>?_);refine bP DI rfl hu ax (fun q hq=>?_);obtain ⟨z,n,rfl,hn,hp⟩:=hq;refine br (fun g=>absurd g (by simp;omega)) (fun _=>?_)
 cases ok with
 | false=>
  rw [if_neg (by simp),if_neg (by simp)];have e1:IntKind.u8.wrap ((c.toNat:Int).tdiv 16)=((c.toNat / 16:Nat):Int):=by rw [AH,y7 (by omega) (by omega)]
  have e2:IntKind.u8.wrap (((c.toNat / 16:Nat):Int) + 1)=((c.toNat / 16:Nat):Int) + 1:=y7 (by omega) (by omega);have e3:IntKind.u8.wrap (((c.toNat % 16:Nat):Int) + 1)=((c.toNat % 16:Nat):Int) + 1:=y7 (by omega) (by omega);refine ⟨⟨by omega,by omega⟩,?_⟩;rw [show bU s ((aC:Int)).toNat=c.toNat from hb];have x1:=nk (s:=ba [48,49,50,51,52,53,54,55,56,57,97,98,99,100,101,102]) rfl (k:=c.toNat / 16) (by omega) e1 ((congrArg (fun z=>IntKind.u8.wrap (z + 1)) e1).trans e2);have x2:=nk (s:=ba [48,49,50,51,52,53,54,55,56,57,97,98,99,100,101,102]) rfl (k:=c.toNat % 16) (by omega) (eO c.toNat) ((congrArg (fun z=>IntKind.u8.wrap (z + 1)) (eO c.toNat)).trans e3);have l1:=congrArg ByteArray.size x1;have l2:=congrArg ByteArray.size x2;rw [Ac] at l1 l2;refine aR (fun _=>false) mo (by decide +kernel) ?_;refine ⟨⟨rfl,by decide⟩,?_⟩;refine ⟨⟨rfl,by decide⟩,?_⟩;refine ⟨⟨by rw [e1];omega,by rw [e1,e2];omega,by rw [e1,e2];show _<=((16:Nat):Int);omega⟩,?_⟩;refine ⟨Nat.le_trans (Nat.le_of_eq (congrArg (2 + ·) l1)) (by show 2 + 1<=9223372036854775807;decide),?_⟩;refine ⟨⟨rfl,by decide⟩,?_⟩;refine ⟨⟨rfl,by decide⟩,?_⟩;refine ⟨⟨by rw [eO];omega,by rw [eO,e3];omega,by rw [eO,e3];show _<=((16:Nat):Int);omega⟩,?_⟩;refine ⟨by rw [fM];exact Nat.le_trans (Nat.le_of_eq (congr (congrArg HAdd.hAdd (congrArg (2 + ·) l1)) l2)) (by show 2 + 1 + 1<=9223372036854775807;decide),?_⟩;refine ⟨.tup [.v (.string _),.v (.int .i64 _)],ax,?_⟩;exact kY (AJ x1 x2)
 | true=>
  obtain ⟨rfl,hz⟩:=hn rfl;have hnn:=ue (rM rfl);rw [<- hz] at hnn;obtain ⟨_,_,LH,h1,h2,_⟩:=cj rfl;injection LH with A9 j8
  subst A9 j8;rw [List.length_cons] at h2;rw [if_pos rfl,if_pos rfl,<- hz];refine call_p NL (y5 z) ax rfl ?_;refine br (fun g=>?_) (fun g=>?_)
  ·have aM:gH z ≠ []:=by
    intro e;rw [e] at g;simp at g
   rw [y6 aM];exact ⟨_,ax,rfl⟩
  ·have he:gH z=[]:=by
    by_cases e:gH z=[]
    ·exact e
    ·exfalso;simp at g;exact e g
   rw [Ck he];refine call_p NN (wU z) ax rfl ?_
   cases uc z with
   | true=>
    rw [if_pos rfl];have SZ:IntKind.u32.wrap z=(z.toNat:Nat):=by rw [uf (by omega) (by omega)];omega
    have hx:=FR z.toNat (by omega);rw [<- SZ] at hx;have hl:=jI (n:=z.toNat) (by omega);refine call_p NO (hx) ax rfl ?_;refine ⟨by show 3 + (gh z.toNat).length<=_;omega,?_⟩;refine ⟨by rw [fM];show 3 + (gh z.toNat).length + 1<=_;omega,?_⟩;refine ⟨.tup [.v (.string _),.v (.int .i64 _)],ax,?_⟩;exact kY (AK _)
   | false=>
    rw [if_neg (by simp)];have hw:IntKind.i64.wrap ((aC:Int) + (av c.toNat:Nat))=((aC + av c.toNat:Nat):Int):=by rw [wrap64 (by omega) (by omega)];omega
    refine ⟨⟨by omega,by rw [hw];omega,by rw [hw];omega⟩,?_⟩;refine ⟨.tup [.v (.string _),.v (.int .i64 _)],ax,?_⟩;refine kY ?_;rw [hw];exact hex _ (by omega)
theorem Ii {c:UInt8} {r:List UInt8} (h:ja (c :: r)=true) {z:Int} (hz:recV ((c :: r).take (av c.toNat))=z) (hlo:z < 128):av c.toNat=1/\(c.toNat:Int)=z:=by
 obtain ⟨_,_,LH,h1,h2,_⟩:=j6 h;injection LH with A9 j8
 subst A9 j8;have hw:=PM c r (av c.toNat) h1 (tT _) h2;rw [h,decide_eq_true rfl,Bool.and_true,mc _ hz] at hw;obtain ⟨_,he⟩:=hw;have hl:=congrArg List.length he;rw [List.length_take,Nat.min_eq_left h2] at hl
 have h5:q6 z.toNat=[UInt8.ofNat z.toNat]:=by
  unfold q6;rw [if_pos (by omega)]
 rw [h5] at he hl;have hl:av c.toNat=1:=by simpa using hl.symm
 refine ⟨hl,?_⟩;rw [hl] at hz;exact hz
set_option maxHeartbeats 1000000 in
theorem wX (s:ByteArray) (aC:Nat) (hs:s.size<=1099511627776) (h:aC < s.size) :
  EvP Tryz.prog 129 [.v (.string s),.v (.int .i64 aC)] (.tup [.v (.string (ba (AG ((tx s).drop aC)))),.v (.int .i64 (jG ((tx s).drop aC):Nat))]):=by
 obtain ⟨c,r,hd,hb,eV,hex⟩:=wW h;have hu:=yW s aC hs c r hd;rw [hd];have Dp:jG (c :: r)=if ja (c :: r)=true then av c.toNat else 1:=rfl
 have PQ:AG (c :: r)=if ja (c :: r)=true then q8 (recV ((c :: r).take (jG (c :: r)))) ((c :: r).take (jG (c :: r))) else [92,120,jH (c.toNat / 16),jH (c.toNat % 16)]:=rfl
 have rM:=tS (c:=c) (r:=r);have cj:=fun g=>j6 (l:=c :: r) g;have LJ:=fun g=>@Ii c r g;have ia:=c.toNat_lt;rw [Dp] at PQ;rw [Dp,PQ];generalize ja (c :: r)=ok at hu rM cj LJ ⊢;refine ev_go (P:=Tryz.prog) tt tt_ok 5000 65 [.tmp 4,.tmp 5] Tryz.func129 rfl Tryz.ntmps129 rfl (nL rfl) (fun E9 w9 hn9 hm9=>?_);refine bP NP rfl hu ax (fun q hq=>?_);obtain ⟨z,n,rfl,hn⟩:=hq
 cases ok with
 | false=>
  rw [if_neg (by simp),if_neg (by simp)];have e0:IntKind.i64.wrap (c.toNat:Int)=c.toNat:=wrap64 (by omega) (by omega);have e1:IntKind.i64.wrap ((IntKind.i64.wrap (c.toNat:Int)).tdiv 16)=((c.toNat / 16:Nat):Int):=by rw [e0,AH,wrap64 (by omega) (by omega)]
  have e2:(IntKind.i64.wrap (c.toNat:Int)).tmod 16=((c.toNat % 16:Nat):Int):=by rw [e0,eO]
  have g1:=iM _ (c.toNat / 16) (Nat.le_refl _) (by omega);have g2:=iM _ (c.toNat % 16) (Nat.le_refl _) (by omega);rw [<- e1] at g1;rw [<- e2] at g2
  have t1:gh (c.toNat / 16)=[jH (c.toNat / 16)]:=by
   have:c.toNat / 16 / 16=0:=by omega
   rw [gh,this,hexP_0,Nat.mod_eq_of_lt (by omega)];all_goals rfl
  have t2:gh (c.toNat % 16)=[jH (c.toNat % 16)]:=by
   have:c.toNat % 16 / 16=0:=by omega
   rw [gh,this,hexP_0,Nat.mod_eq_of_lt (by omega)];all_goals rfl
  rw [t1] at g1;rw [t2] at g2;refine ⟨⟨by omega,by omega⟩,?_⟩;rw [show bU s ((aC:Int)).toNat=c.toNat from hb];refine ⟨⟨rfl,by decide⟩,?_⟩;refine call_p zV (g1) ax rfl ?_;refine ⟨by show 2 + 1<=_;omega,?_⟩;refine ⟨⟨rfl,by decide⟩,?_⟩;refine call_p zV (g2) ax rfl ?_;refine ⟨by rw [fM];show 2 + 1 + 1<=_;omega,?_⟩;refine ⟨.tup [.v (.string _),.v (.int .i64 _)],ax,?_⟩;exact kY (AJ rfl rfl)
 | true=>
  obtain ⟨rfl,hz,xD⟩:=hn rfl;have hnn:=ue (rM rfl);rw [<- hz] at hnn;obtain ⟨_,_,LH,h1,h2,_⟩:=cj rfl;injection LH with A9 j8
  subst A9 j8;rw [List.length_cons] at h2;have LJ:=LJ rfl hz.symm;rw [if_pos rfl,if_pos rfl,<- hz];unfold q8;have Jp:IntKind.i64.wrap ((aC:Int) + 1)=((aC + 1:Nat):Int):=by rw [wrap64 (by omega) (by omega)];omega
  refine br (fun g=>?_) (fun g=>?_)
  ·have g:z=34∨z=92:=by simpa [ak] using g
   obtain ⟨k1,k2⟩:=LJ (by omega)
   have k3:(if z=34 then [92,34] else if z=92 then [92,92] else if z=9 then [92,116] else if z=10 then [92,110] else if z=13 then [92,114]
     else if uc z=true then [92,117,123] ++ gh z.toNat ++ [125] else (c :: r).take (av c.toNat))=[92,c]:=by
    have hc:∀ k:UInt8,(c.toNat:Int)=k.toNat->c=k:=fun k hk=>UInt8.toNat_inj.1 (by omega);rcases g with g | g
    ·rw [if_pos g,hc 34 (by rw [k2,g];rfl)]
    ·rw [if_neg (by omega),if_pos g,hc 92 (by rw [k2,g];rfl)]
   rw [k3,k1];have hx:=hex 1 (by omega);refine ⟨⟨by omega,by rw [Jp];omega,by rw [Jp];omega⟩,?_⟩;have Bd:s.extract ((aC:Int)).toNat (IntKind.i64.wrap ((aC:Int) + 1)).toNat=ba [c]:=by rw [Jp];exact hx
   refine ⟨Nat.le_trans (Nat.le_of_eq (congrArg (fun q:ByteArray=>1 + q.size) Bd)) (by show 1 + 1<=9223372036854775807;decide),?_⟩;refine ⟨.tup [.v (.string _),.v (.int .i64 _)],ax,?_⟩;exact kY ((congrArg (fun q=>ba [92] ++ q) Bd).trans (cN [92] [c]))
  have g:¬ z=34/\¬ z=92:=by simpa [ak] using g
  rw [if_neg g.1,if_neg g.2];refine br (fun g=>?_) (fun g=>?_)
  ·have g:z=9:=by simpa using g
   have k1:=(LJ (by omega)).1;rw [if_pos g,k1];exact ⟨.tup [.v (.string _),.v (.int .i64 _)],ax,rfl⟩
  rw [if_neg (by simpa using g)];refine br (fun g=>?_) (fun g=>?_)
  ·have g:z=10:=by simpa using g
   have k1:=(LJ (by omega)).1;rw [if_pos g,k1];exact ⟨.tup [.v (.string _),.v (.int .i64 _)],ax,rfl⟩
  rw [if_neg (by simpa using g)];refine br (fun g=>?_) (fun g=>?_)
  ·have g:z=13:=by simpa using g
   have k1:=(LJ (by omega)).1;rw [if_pos g,k1];exact ⟨.tup [.v (.string _),.v (.int .i64 _)],ax,rfl⟩
  rw [if_neg (by simpa using g)];have hz1:z<=1114111:=by simp [fW] at xD;omega
  refine bP NQ rfl (wV z hnn.1 hz1) ax (fun q hq=>?_);obtain ⟨k,rfl,hk⟩:=hq;refine br (fun g=>?_) (fun g=>?_)
  ·rw [if_pos (by rw [<- hk];simpa using g)];have S0:IntKind.i64.wrap z=(z.toNat:Nat):=by rw [wrap64 (by omega) (by omega)];omega
   have hx:=iM _ z.toNat (Nat.le_refl _) (by omega);rw [<- S0] at hx;have hl:=jI (n:=z.toNat) (by omega);refine call_p zV (hx) ax rfl ?_;refine ⟨by show 3 + (gh z.toNat).length<=_;omega,?_⟩;refine ⟨by rw [fM];show 3 + (gh z.toNat).length + 1<=_;omega,?_⟩;refine ⟨.tup [.v (.string _),.v (.int .i64 _)],ax,?_⟩;exact kY (AK _)
  ·rw [if_neg (by rw [<- hk];simpa using g)];have hw:IntKind.i64.wrap ((aC:Int) + (av c.toNat:Nat))=((aC + av c.toNat:Nat):Int):=by rw [wrap64 (by omega) (by omega)];omega
   refine ⟨⟨by omega,by rw [hw];omega,by rw [hw];omega⟩,?_⟩;refine ⟨.tup [.v (.string _),.v (.int .i64 _)],ax,?_⟩;refine kY ?_;rw [hw];exact hex _ (by omega)
theorem mf {s:ByteArray} {e:Nat} (h:¬ e < s.size):(tx s).drop e=[]:=List.drop_of_length_le (by rw [bc];omega)
theorem wY {s:ByteArray} {e:Nat} (h:e < s.size):jK ((tx s).drop e).length ((tx s).drop e)=AG ((tx s).drop e) ++ jK ((tx s).drop (e + jG ((tx s).drop e))).length ((tx s).drop (e + jG ((tx s).drop e))) /\
  1<=jG ((tx s).drop e)/\e + jG ((tx s).drop e)<=s.size:=by
 have aM:(tx s).drop e ≠ []:=by
  intro hc;have:=congrArg List.length hc;rw [List.length_drop,bc,List.length_nil] at this;omega
 obtain ⟨h1,h2⟩:=oB aM;rw [List.length_drop,bc] at h2;refine ⟨?_,h1,by omega⟩;rw [Cj aM,List.drop_drop]
abbrev FT (s:ByteArray) (l:List UInt8) (e:Nat):St:=⟨[(0,⟨[],.v (.string s)⟩),(3,⟨[],.v (.string (ba l))⟩),(4,⟨[],.v (.int .i64 e)⟩)],[],[]⟩
theorem ui (s:ByteArray) (hs:s.size<=1099511627776):EvP Tryz.prog 71 [.v (.string s)] (.v (.string (ba (kX (tx s))))):=by
 have hlen:=jL (tx s);rw [bc] at hlen;refine ev_go (P:=Tryz.prog) tt tt_ok 5000 25 [.tmp 2] Tryz.func71 rfl Tryz.ntmps71 rfl (nL rfl) (fun E9 w9 hn9 hm9=>?_);refine aw (fun j st=>∃ (e:Nat) (l:List UInt8),st=FT s l e/\e<=s.size/\kX (tx s)=l ++ (jK ((tx s).drop e).length ((tx s).drop e) ++ [34])/\j=s.size - e) s.size (FT s [34] 0) (weak_mk ⟨_,rfl⟩ wA rfl rfl rfl Di) ⟨0,[34],rfl,by omega,by rw [List.drop_zero];rfl,by omega⟩ ?_;rintro _ st ⟨e,l,rfl,he,hq,rfl⟩;have wa:=congrArg List.length hq;rw [List.length_append,List.length_append] at wa;refine br (fun hL=>?_) (fun hL=>?_)
 ·have aq:e < s.size:=by simp at hL;omega
  obtain ⟨aX,h1,h2⟩:=wY aq;have hu:=wX s e hs aq;rw [aX] at hq wa;rw [List.length_append] at wa;generalize hU:AG ((tx s).drop e)=U at hu hq wa;generalize hN:jG ((tx s).drop e)=n at hu hq wa h1 h2;have hw:IntKind.i64.wrap ((e:Int) + (n:Nat))=((e + n:Nat):Int):=by rw [wrap64 (by omega) (by omega)];omega
  refine call_p NC (hu) ax rfl ?_;refine ⟨by show l.length + U.length<=_;omega,?_⟩;exact ⟨FT s (l ++ U) (e + n),(weak_mk ⟨_,rfl⟩ wA rfl rfl rfl (by repeat' (first | exact trivial | exact ai rfl | exact aj hw | exact tw (cN l U) | refine ⟨⟨_,rfl,?_⟩,?_⟩))),s.size - (e + n),by omega,e + n,_,rfl,h2,by rw [hq];simp only [List.append_assoc],rfl⟩
 ·have bJ:¬ e < s.size:=by simp at hL;omega
  rw [mf bJ] at hq wa;refine ⟨by show l.length + 1<=_;simp only [List.length_nil,List.length_cons] at wa;omega,?_⟩;rw [hq];exact congrArg (fun q=>DV.v (.string q)) (cN l [34])
abbrev LK (s:ByteArray) (l:List UInt8) (p:DV) (e:Nat):St:=
 ⟨[(0,⟨[],.v (.string s)⟩),(3,⟨[],.loc 0 0⟩),(4,⟨[],.v (.int .i64 e)⟩)],[[p,.sl 1 (bD l) (some 0)]],[⟨l.length,5,1,none⟩]⟩
theorem y9 (s:ByteArray) (hs:s.size<=1099511627776):EvP Tryz.prog 68 [.v (.string s)] (.v (.string (ba (kX (tx s))))):=by
 have hlen:=jL (tx s);rw [bc] at hlen;refine ta (s:=false) (bt:=[(0,161)]) (hbt:=fun p hp=>Nat.zero_le _) (P:=Tryz.prog) tt tt_ok 5000 25 [.tmp 2] Tryz.func68 rfl Tryz.ntmps68 rfl (nL rfl) (fun E9 w9 hn9 hm9=>?_);refine wO ⟨0,5,1,none⟩ ⟨[(0,⟨[],.v (.string s)⟩),(3,⟨[],.loc 0 0⟩)],[[.v (.pointer none),.sl 1 [] (some 0)]],[⟨0,5,1,none⟩]⟩ rfl ⟨_,_,rfl,ai rfl,_,_,rfl,ai rfl,rfl⟩ rfl ⟨_,_,rfl,⟨_,_,rfl,ai rfl,_,_,rfl,bp (Nat.le_refl _) rfl,rfl⟩,rfl⟩ ⟨⟨_,rfl,ai rfl⟩,⟨_,rfl,ai rfl⟩,trivial⟩ rfl rfl ?_;refine AF (c:=34) (kt:=0) (l:=[]) rfl rfl (.head _) rfl (.inl rfl) rfl (by decide) rfl ?_;refine aw (fun j st=>∃ (e:Nat) (l:List UInt8),st=LK s l (.loc 0 0) e/\e<=s.size/\l ≠ []/\kX (tx s)=l ++ (jK ((tx s).drop e).length ((tx s).drop e) ++ [34])/\j=s.size - e) s.size (LK s [34] (.loc 0 0) 0) (weak_mk ⟨_,rfl⟩ wA rfl rfl rfl Di) ⟨0,[34],rfl,by omega,by simp,by rw [List.drop_zero];rfl,by omega⟩ ?_;rintro _ st ⟨e,l,rfl,he,aM,hq,rfl⟩;have wa:=congrArg List.length hq;rw [List.length_append,List.length_append] at wa;refine br (fun hL=>?_) (fun hL=>?_)
 ·have aq:e < s.size:=by simp at hL;omega
  obtain ⟨aX,h1,h2⟩:=wY aq;have hu:=y8 s e hs aq;rw [aX] at hq wa;rw [List.length_append] at wa;generalize hU:AG ((tx s).drop e)=U at hu hq wa;generalize hN:jG ((tx s).drop e)=n at hu hq wa h1 h2;have hw:IntKind.i64.wrap ((e:Int) + (n:Nat))=((e + n:Nat):Int):=by rw [wrap64 (by omega) (by omega)];omega
  refine call_p NB (hu) ax rfl ?_;refine fX rfl (l ++ U) (l:=l) (kt:=0) rfl (.head _) rfl (.inr rfl) rfl (by simp [aM]) (by rw [List.length_append];omega) rfl (fun n9=>?_);exact ⟨LK s (l ++ U) (.loc 0 0) (e + n),(weak_mk ⟨_,rfl⟩ wA rfl rfl rfl (by repeat' (first | exact trivial | exact ai rfl | exact aj hw | refine ⟨⟨_,rfl,?_⟩,?_⟩))),s.size - (e + n),by omega,e + n,_,rfl,h2,by simp [aM],by rw [hq];simp only [List.append_assoc],rfl⟩
 ·have bJ:¬ e < s.size:=by simp at hL;omega
  rw [mf bJ] at hq wa;refine AF (c:=34) (kt:=0) (l:=l) rfl rfl (.head _) rfl (.inr rfl) rfl (by simp only [List.length_nil,List.length_cons] at wa;omega) rfl ?_;refine AE rfl (kt:=0) (l:=l ++ [34]) (.head _) rfl (by simp) (by simp) rfl rfl rfl ?_;rw [hq];exact (rfl:_=_)
end Go.Proofs.YtfifjddnnmfeoaaGreat
set_option maxRecDepth 100000
namespace Go.Proofs.YtfifjddnnmfeoaaGreat
open Go Go.RowKit Dv Tryz
end Go.Proofs.YtfifjddnnmfeoaaGreat
set_option maxRecDepth 100000
namespace Go.Proofs.YtfifjddnnmfeoaaGreat
open Go Go.RowKit Dv Tryz
def AL (n:Nd) (v:Val):Bool:=
 if 0 < v.ks.length∨(v.k≠3/\v.s≠al)∨(v.k=3/\v.n≠0) then false
 else if n.ag=1 then decide (v.k=1) && (decide (v.n=0) || decide (v.n=1))
 else if n.ag=2 then decide (v.k=2) && decide (n.lo<=v.n) && decide (v.n<=n.hi)
 else if n.ag=3 then decide (v.k=3) && decide ((v.s.size:Int)<=n.most)
 else decide (v.k=4) && decide (0<=v.n) && decide (v.n < n.ae.length)
def cI (v:Val):Bool:=decide (v.s=al) && (decide (v.n=0) || decide (v.k=8))
def to0 (n:Nd):Int:=match n.ay[0]? with | some e=>e.to | none=>0
def rb (n:Nd) (v:Val):Option Ed:=if v.k=8/\0<=v.n/\v.n < n.ay.length then n.ay[v.n.toNat]? else none
def kidsL (n:Nd) (v:Val):List Int:=
 if n.ag=5∨n.ag=6 then List.replicate v.ks.length (to0 n)
 else if n.ag=7 then n.ay.map Ed.to
 else match rb n v with | none=>[] | some e=>if e.bare=true then [] else [e.to]
def ff (n:Nd) (v:Val):Bool:=
 if n.ag=5∨n.ag=6 then cI v && decide (v.k=n.ag) && decide ((v.ks.length:Int)<=if n.ag=6 then 1 else n.most)
 else if n.ag=7 then cI v && decide (v.k=7) && decide (n.ay.length=v.ks.length)
 else match rb n v with | none=>false | some _=>cI v && decide ((kidsL n v).length=v.ks.length)
def cQ (ND:List Nd) (i:Int):Option Nd:=if i < 0 then none else ND[i.toNat]?
mutual
def fitV (ND:List Nd):Val->Int->Bool
 | .mk k n s ks,i=>match cQ ND i with
  | none=>false
  | some d=>if d.ag < 5 then AL d (.mk k n s ks) else ff d (.mk k n s ks) && fitVs ND ks (kidsL d (.mk k n s ks))
def fitVs (ND:List Nd):List Val->List Int->Bool
 | v :: r,i :: l=>fitV ND v i && fitVs ND r l
 | _,_=>true
end
def kg (l:List Int):List (List DV):=l.map fun z=>[DV.v (.int .i64 z)]
theorem gv (l:List Int):(kg l).length=l.length:=by simp [kg]
theorem mg {l:List Int} {i:Nat} {z:Int} (h:l[i]? = some z):(kg l)[i]? = some [DV.v (.int .i64 z)]:=by simp [kg,h]
theorem mh (l:List Int) (z:Int):kg l ++ [[DV.v (.int .i64 z)]]=kg (l ++ [z]):=by simp [kg]
theorem sE:(⟨#[]⟩:ByteArray)=al:=rfl
theorem Cm (n:Nd) (v:Val):EvP Tryz.prog 60 [.agg (n7 n),.agg (cH v)] (.v (.bool (AL n v))):=by
 have hbl:=bl n.ae;obtain ⟨ag,aC,lo,hi,most,ae,es⟩:=n;obtain ⟨q,z,s,ks⟩:=v;have iS:=dB ks;simp only at hbl
 have hF:AL ⟨ag,aC,lo,hi,most,ae,es⟩ (.mk q z s ks)=if 0 < ks.length∨(q≠3/\s≠al)∨(q=3/\z≠0) then false
  else if ag=1 then decide (q=1) && (decide (z=0) || decide (z=1))
  else if ag=2 then decide (q=2) && decide (lo<=z) && decide (z<=hi)
  else if ag=3 then decide (q=3) && decide ((s.size:Int)<=most)
  else decide (q=4) && decide (0<=z) && decide (z < ae.length):=rfl
 have hc:∀ b:Bool,b=pickB (pickB (decide (0 < ((dVals ks).length:Int))) true (pickB (!decide (q=3)) (!decide (s=⟨#[]⟩)) false)) true (pickB (decide (q=3)) (!decide (z=0)) false)->b=decide (0 < ks.length∨(q≠3/\s≠al)∨(q=3/\z≠0)):=fun b h=>by
  rw [h,iS,sE,Bool.eq_iff_iff];simp [ak,pickB_and,or_assoc]
 rw [hF];refine ev_go (P:=Tryz.prog) tt tt_ok 5000 94 [.tmp 4] Tryz.func60 rfl Tryz.ntmps60 rfl (nL rfl) (fun E9 w9 hn9 hm9=>?_);refine br (fun c=>?_) (fun c=>?_)
 ·have c:=of_decide_eq_true ((hc _ rfl).symm.trans c);rw [if_pos c];exact (rfl:_=_)
 have c:=of_decide_eq_false ((hc _ rfl).symm.trans c);rw [if_neg c];refine br (fun c1=>?_) (fun c1=>?_)
 ·have c1:ag=1:=by simpa using c1
  refine (congrArg (fun b=>DV.v (.bool b)) ?_:_=_);simp [c1,pickB_and,ak]
 have c1:¬ ag=1:=by simpa using c1
 refine br (fun c2=>?_) (fun c2=>?_)
 ·have c2:ag=2:=by simpa using c2
  refine (congrArg (fun b=>DV.v (.bool b)) ?_:_=_);simp [c2,pickB_and,ak]
 have c2:¬ ag=2:=by simpa using c2
 refine br (fun c3=>?_) (fun c3=>?_)
 ·have c3:ag=3:=by simpa using c3
  refine (congrArg (fun b=>DV.v (.bool b)) ?_:_=_);simp [c3,pickB_and,ak]
 have c3:¬ ag=3:=by simpa using c3
 refine (congrArg (fun b=>DV.v (.bool b)) ?_:_=_);simp [c1,c2,c3,pickB_and,ak,hbl]
abbrev sF (n:Nd) (v:Val) (l:List Int) (p:Bool) (kd mo:Int) (q e:Nat):St:=
 ⟨[(2,⟨[],.loc 0 0⟩),(3,⟨[],.loc 1 0⟩),(6,⟨[],.sl 1 (kg l) (some 0)⟩),(7,⟨[],.v (.bool p)⟩),(8,⟨[],.v (.int .i64 kd)⟩),(9,⟨[],.v (.int .i64 mo)⟩),(38,⟨[],.v (.int .i64 v.ks.length)⟩),(39,⟨[],.v (.int .i64 e)⟩)],[n7 n,cH v],[⟨q,3,1,none⟩]⟩
abbrev FU (n:Nd) (v:Val) (l:List Int) (p:Bool) (q e:Nat):St:=
 ⟨[(2,⟨[],.loc 0 0⟩),(3,⟨[],.loc 1 0⟩),(6,⟨[],.sl 1 (kg l) (some 0)⟩),(7,⟨[],.v (.bool p)⟩),(67,⟨[],.sl 10 (gD n.ay) none⟩),(68,⟨[],.v (.int .i64 (gD n.ay).length)⟩),(69,⟨[],.v (.int .i64 e)⟩)],[n7 n,cH v],[⟨q,3,1,none⟩]⟩
theorem Cn {L N:Nat} {n:Nd} (hn:dX L N n) (h5:5<=n.ag) (v:Val) (hv:v.wt<=1099511627776) :
  EvP Tryz.prog 61 [.agg (n7 n),.agg (cH v)] (.tup [.sl 1 (kg (kidsL n v)) none,.v (.bool (ff n v))]):=by
 have Mu:=hn.k8;have LL:=hn.one;have wZ:=hn.many;obtain ⟨ag,aC,lo,hi,most,ae,es⟩:=n;obtain ⟨q,z,s,ks⟩:=v;have iS:=dB ks;have rr:=dR es;have mn:=fV ks;rw [Val.wt] at hv;simp only at Mu h5 LL wZ
 have hp:∀ b:Bool,b=pickB (decide (s=⟨#[]⟩)) (pickB (decide (z=0)) true (decide (q=8))) false->b=cI (.mk q z s ks):=fun b h=>by
  rw [h];rw [pickB_and,ak,sE];all_goals rfl
 refine ev_go (P:=Tryz.prog) tt tt_ok 5000 134 [.tmp 4,.tmp 5] Tryz.func61 rfl Tryz.ntmps61 rfl (nL rfl) (fun E9 w9 hn9 hm9=>?_);refine br (fun c=>?_) (fun c=>?_)
 ·have c:ag=5:=by simpa using c
  have LM:ag=5∨ag=6:=.inl c;obtain ⟨x,kj,_,_⟩:=LL LM;refine br (fun _=>?_) (fun h=>absurd h (by simp [c]));refine aR (fun _=>false) mo (by decide +kernel) ?_;refine br (fun h=>absurd h (by simp [c])) (fun _=>?_);obtain ⟨kd,mo,h1,h2,h3,h4⟩:∃ kd mo:Int,5=kd/\most=mo/\kd=ag/\mo=(if ag=6 then 1 else most):=⟨5,most,rfl,rfl,c.symm,by rw [if_neg (by omega)]⟩;have sY:(gD es)[0]? = some (xF x):=by rw [kj];all_goals rfl
  have ht0:to0 ⟨ag,aC,lo,hi,most,ae,es⟩=x.to:=by simp [to0,kj]
  refine aw (fun j st=>∃ e:Nat,st=sF ⟨ag,aC,lo,hi,most,ae,es⟩ (.mk q z s ks) (List.replicate e x.to) (cI (.mk q z s ks)) kd mo e e/\e<=ks.length/\j=ks.length - e) ks.length (sF ⟨ag,aC,lo,hi,most,ae,es⟩ (.mk q z s ks) [] (cI (.mk q z s ks)) kd mo 0 0) (dI 2 ⟨0,3,1,none⟩ rfl rfl rfl (by repeat' (first | exact rfl | exact ai rfl | exact j3 (hp _ rfl) | exact aj h1 | exact aj h2 | exact aj (congrArg Nat.cast iS) | exact bp (Nat.le_refl _) rfl | exact bp (Nat.le_refl _) rfl | refine ⟨_,_,rfl,?_,?_⟩)) rfl rfl (by repeat' (first | exact trivial | exact ai rfl | exact j3 (hp _ rfl) | exact aj h1 | exact aj h2 | exact aj (congrArg Nat.cast iS) | exact bp (Nat.le_refl _) rfl | refine ⟨⟨_,rfl,?_⟩,?_⟩))) ⟨0,rfl,by omega,by omega⟩ ?_;rintro j st ⟨e,rfl,he,rfl⟩;refine br (fun hL=>?_) (fun hL=>?_)
  ·have aq:e < ks.length:=by have:=hL;simp [Val.ks] at this;exact this
   have rc:(kg (List.replicate e x.to)).length=e:=by rw [gv,List.length_replicate]
   have iY:kg (List.replicate e x.to) ++ [[DV.v (.int .i64 x.to)]]=kg (List.replicate (e + 1) x.to):=by rw [mh,List.replicate_succ']
   refine ⟨_,⟨by omega,sY⟩,?_⟩;refine ⟨rc,⟨by rw [rc];simp [maxLen];omega,by rw [rc];simp;omega⟩,?_⟩;exact ⟨sF ⟨ag,aC,lo,hi,most,ae,es⟩ (.mk q z s ks) (List.replicate (e + 1) x.to) (cI (.mk q z s ks)) kd mo (e + 1) (e + 1),(aH 2 rfl (Gu aq iY) rfl rfl rfl (A8 aq iY)),ks.length - (e + 1),by omega,e + 1,rfl,by omega,rfl⟩
  ·have bJ:e=ks.length:=by have:=hL;simp [Val.ks] at this;omega
   subst bJ;have re:kidsL ⟨ag,aC,lo,hi,most,ae,es⟩ (.mk q z s ks)=List.replicate ks.length x.to:=by unfold kidsL;rw [if_pos LM,ht0];all_goals rfl
   have rc:(kg (List.replicate ks.length x.to)).length=ks.length:=by rw [gv,List.length_replicate]
   have hB:pickB (pickB (cI (.mk q z s ks)) (decide (q=kd)) false) (decide (((kg (List.replicate ks.length x.to)).length:Int)<=mo)) false=ff ⟨ag,aC,lo,hi,most,ae,es⟩ (.mk q z s ks):=by
    rw [rc,h3,h4,pickB_and,pickB_and];unfold ff;rw [if_pos LM];rfl
   rw [re];exact ⟨_,(aB hB),rfl⟩
 have c5:¬ ag=5:=by simpa using c
 refine br (fun c=>?_) (fun c=>?_)
 ·have c:ag=6:=by simpa using c
  have LM:ag=5∨ag=6:=.inr c;obtain ⟨x,kj,_,_⟩:=LL LM;refine aR (fun _=>false) mo (by decide +kernel) ?_;refine br (fun _=>?_) (fun h=>absurd h (by simp [c]));obtain ⟨kd,mo,h1,h2,h3,h4⟩:∃ kd mo:Int,6=kd/\1=mo/\kd=ag/\mo=(if ag=6 then 1 else most):=⟨6,1,rfl,rfl,c.symm,by rw [if_pos c]⟩;have sY:(gD es)[0]? = some (xF x):=by rw [kj];all_goals rfl
  have ht0:to0 ⟨ag,aC,lo,hi,most,ae,es⟩=x.to:=by simp [to0,kj]
  refine aw (fun j st=>∃ e:Nat,st=sF ⟨ag,aC,lo,hi,most,ae,es⟩ (.mk q z s ks) (List.replicate e x.to) (cI (.mk q z s ks)) kd mo e e/\e<=ks.length/\j=ks.length - e) ks.length (sF ⟨ag,aC,lo,hi,most,ae,es⟩ (.mk q z s ks) [] (cI (.mk q z s ks)) kd mo 0 0) (dI 2 ⟨0,3,1,none⟩ rfl rfl rfl (by repeat' (first | exact rfl | exact ai rfl | exact j3 (hp _ rfl) | exact aj h1 | exact aj h2 | exact aj (congrArg Nat.cast iS) | exact bp (Nat.le_refl _) rfl | exact bp (Nat.le_refl _) rfl | refine ⟨_,_,rfl,?_,?_⟩)) rfl rfl (by repeat' (first | exact trivial | exact ai rfl | exact j3 (hp _ rfl) | exact aj h1 | exact aj h2 | exact aj (congrArg Nat.cast iS) | exact bp (Nat.le_refl _) rfl | refine ⟨⟨_,rfl,?_⟩,?_⟩))) ⟨0,rfl,by omega,by omega⟩ ?_;rintro j st ⟨e,rfl,he,rfl⟩;refine br (fun hL=>?_) (fun hL=>?_)
  ·have aq:e < ks.length:=by have:=hL;simp [Val.ks] at this;exact this
   have rc:(kg (List.replicate e x.to)).length=e:=by rw [gv,List.length_replicate]
   have iY:kg (List.replicate e x.to) ++ [[DV.v (.int .i64 x.to)]]=kg (List.replicate (e + 1) x.to):=by rw [mh,List.replicate_succ']
   refine ⟨_,⟨by omega,sY⟩,?_⟩;refine ⟨rc,⟨by rw [rc];simp [maxLen];omega,by rw [rc];simp;omega⟩,?_⟩;exact ⟨sF ⟨ag,aC,lo,hi,most,ae,es⟩ (.mk q z s ks) (List.replicate (e + 1) x.to) (cI (.mk q z s ks)) kd mo (e + 1) (e + 1),(aH 2 rfl (Gu aq iY) rfl rfl rfl (A8 aq iY)),ks.length - (e + 1),by omega,e + 1,rfl,by omega,rfl⟩
  ·have bJ:e=ks.length:=by have:=hL;simp [Val.ks] at this;omega
   subst bJ;have re:kidsL ⟨ag,aC,lo,hi,most,ae,es⟩ (.mk q z s ks)=List.replicate ks.length x.to:=by unfold kidsL;rw [if_pos LM,ht0];all_goals rfl
   have rc:(kg (List.replicate ks.length x.to)).length=ks.length:=by rw [gv,List.length_replicate]
   have hB:pickB (pickB (cI (.mk q z s ks)) (decide (q=kd)) false) (decide (((kg (List.replicate ks.length x.to)).length:Int)<=mo)) false=ff ⟨ag,aC,lo,hi,most,ae,es⟩ (.mk q z s ks):=by
    rw [rc,h3,h4,pickB_and,pickB_and];unfold ff;rw [if_pos LM];rfl
   rw [re];exact ⟨_,(aB hB),rfl⟩
 have c6:¬ ag=6:=by simpa using c
 obtain ⟨hm64,hm8,_,_⟩:=wZ (by omega);refine br (fun c=>?_) (fun c=>?_)
 ·have c7:ag=7:=by simpa using c
  refine aw (fun j st=>∃ e:Nat,st=FU ⟨ag,aC,lo,hi,most,ae,es⟩ (.mk q z s ks) ((es.take e).map Ed.to) (cI (.mk q z s ks)) e e/\e<=es.length/\j=es.length - e) es.length (FU ⟨ag,aC,lo,hi,most,ae,es⟩ (.mk q z s ks) [] (cI (.mk q z s ks)) 0 0) (dI 2 ⟨0,3,1,none⟩ rfl rfl rfl (by repeat' (first | exact rfl | exact ai rfl | exact j3 (hp _ rfl) | exact bp (Nat.le_refl _) rfl | exact bp (Nat.le_refl _) rfl | refine ⟨_,_,rfl,?_,?_⟩)) rfl rfl (by repeat' (first | exact trivial | exact ai rfl | exact j3 (hp _ rfl) | exact bp (Nat.le_refl _) rfl | refine ⟨⟨_,rfl,?_⟩,?_⟩))) ⟨0,rfl,by omega,by omega⟩ ?_;rintro j st ⟨e,rfl,he,rfl⟩;refine br (fun hL=>?_) (fun hL=>?_)
  ·have aq:e < es.length:=by have:=hL;simp [rr] at this;exact this
   obtain ⟨x,hx⟩:∃ x,es[e]? = some x:=⟨_,gE aq⟩;have rc:(kg ((es.take e).map Ed.to)).length=e:=by rw [gv,List.length_map,List.length_take];omega
   have iY:kg ((es.take e).map Ed.to) ++ [[DV.v (.int .i64 x.to)]]=kg ((es.take (e + 1)).map Ed.to):=by rw [mh,B7 hx,List.map_append];all_goals rfl
   refine ⟨_,⟨by omega,cY hx⟩,?_⟩;refine ⟨rc,⟨by rw [rc];simp [maxLen];omega,by rw [rc];simp;omega⟩,?_⟩;exact ⟨FU ⟨ag,aC,lo,hi,most,ae,es⟩ (.mk q z s ks) ((es.take (e + 1)).map Ed.to) (cI (.mk q z s ks)) (e + 1) (e + 1),(aH 2 rfl (Gu aq iY) rfl rfl rfl (A8 aq iY)),es.length - (e + 1),by omega,e + 1,rfl,by omega,rfl⟩
  ·have bJ:e=es.length:=by have:=hL;simp [rr] at this;omega
   subst bJ;rw [List.take_length];have re:kidsL ⟨ag,aC,lo,hi,most,ae,es⟩ (.mk q z s ks)=es.map Ed.to:=by unfold kidsL;rw [if_neg (by simp only;omega),if_pos c7]
   have rc:(kg (es.map Ed.to)).length=es.length:=by rw [gv,List.length_map]
   have hB:pickB (pickB (cI (.mk q z s ks)) (decide (q=7)) false) (decide (((kg (es.map Ed.to)).length:Int)=((dVals ks).length:Int))) false=ff ⟨ag,aC,lo,hi,most,ae,es⟩ (.mk q z s ks):=by
    rw [rc,iS,pickB_and,pickB_and];unfold ff;rw [if_neg (by simp only;omega),if_pos c7];have:((es.length:Int)=(ks.length:Int))↔es.length=ks.length:=by omega
    simp only [this,Val.k,Val.ks];rfl
   rw [re];refine aR (fun _=>false) mo (by decide +kernel) ?_;exact ⟨_,(aB hB),rfl⟩
 have c7:¬ ag=7:=by simpa using c
 have re:kidsL ⟨ag,aC,lo,hi,most,ae,es⟩ (.mk q z s ks)=(match rb ⟨ag,aC,lo,hi,most,ae,es⟩ (.mk q z s ks) with | none=>[] | some e=>if e.bare=true then [] else [e.to]):=by unfold kidsL;rw [if_neg (by simp only;omega),if_neg c7];all_goals rfl
 have Ij:ff ⟨ag,aC,lo,hi,most,ae,es⟩ (.mk q z s ks)=(match rb ⟨ag,aC,lo,hi,most,ae,es⟩ (.mk q z s ks) with | none=>false | some _=>cI (.mk q z s ks) && decide ((kidsL ⟨ag,aC,lo,hi,most,ae,es⟩ (.mk q z s ks)).length=ks.length)):=by unfold ff;rw [if_neg (by simp only;omega),if_neg c7];all_goals rfl
 have hc:∀ b:Bool,b=pickB (pickB (!decide (q=8)) true (decide (z < 0))) true (decide (((gD es).length:Int)<=z))->b = !decide (q=8/\0<=z/\z < es.length):=fun b h=>by
  rw [h,rr,ak,ak,Bool.eq_iff_iff];simp;omega
 refine br (fun c=>?_) (fun c=>?_)
 ·have c:¬ (q=8/\0<=z/\z < es.length):=by have:=(hc _ rfl).symm.trans c;simpa only [Bool.not_eq_true',decide_eq_false_iff_not] using this
  have ht:rb ⟨ag,aC,lo,hi,most,ae,es⟩ (.mk q z s ks)=none:=by show (if q=8/\0<=z/\z < es.length then es[z.toNat]? else none)=_;rw [if_neg c]
  rw [Ij,re,ht];exact ⟨_,ax,rfl⟩
 ·have c:q=8/\0<=z/\z < es.length:=by have:=(hc _ rfl).symm.trans c;simpa only [Bool.not_eq_false',decide_eq_true_eq] using this
  obtain ⟨x,hx⟩:∃ x,es[z.toNat]? = some x:=⟨_,gE (by omega)⟩;have ht:rb ⟨ag,aC,lo,hi,most,ae,es⟩ (.mk q z s ks)=some x:=by show (if q=8/\0<=z/\z < es.length then es[z.toNat]? else none)=_;rw [if_pos c];exact hx
  rw [ht] at Ij re;refine ⟨_,⟨by omega,cY hx⟩,?_⟩;refine br (fun hb=>?_) (fun hb=>?_)
  ·have hb:x.bare=false:=by simpa using hb
   have FV:kidsL ⟨ag,aC,lo,hi,most,ae,es⟩ (.mk q z s ks)=[x.to]:=by rw [re];simp [hb]
   have hB:pickB (cI (.mk q z s ks)) (decide ((1:Int)=((dVals ks).length:Int))) false=ff ⟨ag,aC,lo,hi,most,ae,es⟩ (.mk q z s ks):=by
    rw [Ij,FV,iS,pickB_and];have:((1:Int)=(ks.length:Int)) ↔ [x.to].length=ks.length:=by simp;omega
    simp only [this]
   rw [FV,<- hB];refine ⟨⟨by simp [maxLen],by simp⟩,?_⟩;refine aR (fun _=>false) mo (by decide +kernel) ?_;exact ⟨_,(by repeat' (first | exact rfl | exact trivial | exact Or.inr (Or.inl ⟨_,rfl⟩) | exact Or.inr ⟨_,rfl⟩ | exact Or.inl ⟨rfl,rfl⟩ | exact Or.inl rfl | refine Or.inr ⟨_,_,rfl,Nat.zero_le _,rfl,?_⟩ | refine ⟨_,_,rfl,?_,?_⟩ | refine ⟨_,rfl,?_⟩ | exact congrArg (fun b=>DV.v (.bool (pickB b _ false))) (hp _ rfl) | refine Or.inr (Or.inr (Or.inr ⟨_,_,rfl,?_⟩)) | exact Or.inl rfl | refine Or.inr ?_)),rfl⟩
  ·have hb:x.bare=true:=by simpa using hb
   have FV:kidsL ⟨ag,aC,lo,hi,most,ae,es⟩ (.mk q z s ks)=[]:=by rw [re];simp [hb]
   have hB:pickB (cI (.mk q z s ks)) (decide ((0:Int)=((dVals ks).length:Int))) false=ff ⟨ag,aC,lo,hi,most,ae,es⟩ (.mk q z s ks):=by
    rw [Ij,FV,iS,pickB_and];have:((0:Int)=(ks.length:Int))↔([]:List Int).length=ks.length:=by simp;omega
    simp only [this]
   rw [FV,<- hB];refine aR (fun _=>false) mo (by decide +kernel) ?_;exact ⟨_,(by repeat' (first | exact rfl | exact trivial | exact Or.inr (Or.inl ⟨_,rfl⟩) | exact Or.inr ⟨_,rfl⟩ | exact Or.inl ⟨rfl,rfl⟩ | exact Or.inl rfl | refine Or.inr ⟨_,_,rfl,Nat.zero_le _,rfl,?_⟩ | refine ⟨_,_,rfl,?_,?_⟩ | refine ⟨_,rfl,?_⟩ | exact congrArg (fun b=>DV.v (.bool (pickB b _ false))) (hp _ rfl) | refine Or.inr (Or.inr (Or.inr ⟨_,_,rfl,?_⟩)) | exact Or.inl rfl | refine Or.inr ?_)),rfl⟩
theorem sG {n:Nd} {v:Val} (hk:5<=n.ag) (h:ff n v=true):(kidsL n v).length=v.ks.length:=by
 unfold ff at h;by_cases c:n.ag=5∨n.ag=6
 ·unfold kidsL;rw [if_pos c];simp
 rw [if_neg c] at h;by_cases c7:n.ag=7
 ·rw [if_pos c7] at h;unfold kidsL;rw [if_neg c,if_pos c7,List.length_map];simp at h;exact h.2
 rw [if_neg c7] at h
 cases ht:rb n v with
 | none=>rw [ht] at h;cases h
 | some e=>rw [ht] at h;simp only [Bool.and_eq_true,decide_eq_true_eq] at h;exact h.2
theorem za {ND:List Nd} {ks:List Val} {l:List Int} {e:Nat} {x:Val} {i:Int} (h1:ks[e]? = some x) (h2:l[e]? = some i):fitVs ND (ks.drop e) (l.drop e)=(fitV ND x i && fitVs ND (ks.drop (e + 1)) (l.drop (e + 1))):=by
 rw [drop_cons h1,drop_cons h2,fitVs]
theorem dx {ND:List Nd} {i:Int} {d:Nd} (h:cQ ND i=some d):0<=i/\ND[i.toNat]? = some d:=by
 unfold cQ at h;split at h
 ·cases h
 ·exact ⟨by omega,h⟩
theorem zb {ND:List Nd} {i:Int} (h:cQ ND i=none):i < 0∨(ND.length:Int)<=i:=by
 unfold cQ at h;split at h
 ·left;assumption
 ·right;have:=List.getElem?_eq_none_iff.1 h;omega
abbrev LN (PC:List DV) (v:Val) (l:List Int) (e:Nat):St:=
 ⟨[(0,⟨[],.pt PC 0⟩),(5,⟨[],.loc 0 0⟩),(36,⟨[],.sl 1 (kg l) none⟩),(37,⟨[],.v (.int .i64 l.length)⟩),(38,⟨[],.v (.int .i64 e)⟩)],[cH v],[]⟩
theorem qH {S:Sch} {ND:List Nd} {PC:List DV} (hP:jF S ND PC):∀ (k:Nat) (v:Val),v.wt<=k->v.wt<=1099511627776->∀ i:Int,EvP Tryz.prog 20 [.pt PC 0,.v (.int .i64 i),.agg (cH v)] (.v (.bool (fitV ND v i)))
 | 0,v,h,_=>by have:=v.eX;omega
 | k + 1,.mk q z s ks,h,hb=>fun i=>by
  have ih:=qH hP k;have mn:=fV ks;have iS:=dB ks;have cJ:=hb;rw [Val.wt] at h hb;rw [fitV];have gX:=hP.ah;have LO:=hP.JH;have cj:=hP.ok
  cases hd:cQ ND i with
  | none=>
   refine ev_go (P:=Tryz.prog) tt tt_ok 5000 53 [.tmp 6] Tryz.func20 rfl Tryz.ntmps20 rfl (nL rfl) (fun E9 w9 hn9 hm9=>?_);refine call_p Be (LO i (zb hd)) ax rfl ?_;exact (rfl:_=_)
  | some d=>
   obtain ⟨h0,hg⟩:=dx hd;obtain ⟨j,rfl⟩:∃ j:Nat,i=j:=⟨i.toNat,by omega⟩;have hg:ND[j]? = some d:=by simpa using hg
   have hN:=cj d (mG hg);have Ei:=Cm d (.mk q z s ks);have GA:=fun h5=>Cn hN h5 (.mk q z s ks) cJ;have hlen:=fun h5=>sG (n:=d) (v:=.mk q z s ks) h5;simp only;obtain ⟨ag,aC,lo,hi,most,ae,es⟩:=d;simp only at GA hlen;refine ev_go (P:=Tryz.prog) tt tt_ok 5000 53 [.tmp 6] Tryz.func20 rfl Tryz.ntmps20 rfl (nL rfl) (fun E9 w9 hn9 hm9=>?_);refine call_p Be (gX j _ hg) ax rfl ?_;refine br (fun c=>?_) (fun c=>?_)
   ·have c:ag < 5:=by simpa using c
    rw [if_pos c];refine call_p RE (Ei) ax rfl ?_;exact (rfl:_=_)
   have c:¬ ag < 5:=by simpa using c
   rw [if_neg c];have GA:=GA (by omega);have hlen:=hlen (by omega);generalize kidsL ⟨ag,aC,lo,hi,most,ae,es⟩ (.mk q z s ks)=l at GA hlen ⊢;have hzl:=gv l;refine call_p RF (GA) ax rfl ?_
   cases hB:ff ⟨ag,aC,lo,hi,most,ae,es⟩ (.mk q z s ks) with
   | false=>
    exact (rfl:_=_)
   | true=>
    have hlen:l.length=ks.length:=hlen hB;rw [Bool.true_and];refine aw (fun j st=>∃ e:Nat,st=LN PC (.mk q z s ks) l e/\e<=l.length/\fitVs ND ks l=fitVs ND (ks.drop e) (l.drop e)/\j=l.length - e) l.length (LN PC (.mk q z s ks) l 0) (weak_mk ⟨_,rfl⟩ wA rfl rfl rfl (by repeat' (first | exact trivial | exact ai rfl | exact aj (congrArg Nat.cast hzl) | refine ⟨⟨_,rfl,?_⟩,?_⟩))) ⟨0,rfl,by omega,rfl,by omega⟩ ?_;rintro _ st ⟨e,rfl,he,bd,rfl⟩;refine br (fun hL=>?_) (fun hL=>?_)
    ·have aq:e < l.length:=by have:=hL;simp at this;exact this
     obtain ⟨x,hx⟩:∃ x,ks[e]? = some x:=⟨_,gE (by omega)⟩;obtain ⟨y,hy⟩:∃ y,l[e]? = some y:=⟨_,gE aq⟩;have Sy:=ma (mG hx);rw [za hx hy] at bd;have dE:=ih x (by omega) (by omega) y;obtain ⟨xk,xn,xs,xl⟩:=x;refine ⟨_,⟨by omega,mg hy⟩,?_⟩;refine ⟨_,⟨by omega,nf hx⟩,?_⟩;refine call_p Ni (dE) ax rfl ?_;refine br (fun g=>?_) (fun g=>?_)
     ·have g:fitV ND (.mk xk xn xs xl) y=false:=by simpa using g
      rw [bd,g];exact (rfl:_=_)
     ·have g:fitV ND (.mk xk xn xs xl) y=true:=by simpa using g
      rw [g,Bool.true_and] at bd;exact ⟨LN PC (.mk q z s ks) l (e + 1),(weak_mk ⟨_,rfl⟩ wA rfl rfl rfl (wNB aq)),l.length - (e + 1),by omega,e + 1,rfl,by omega,bd,rfl⟩
    ·have bJ:e=l.length:=by have:=hL;simp at this;omega
     rw [List.drop_of_length_le (by omega),List.drop_of_length_le (by omega)] at bd;rw [bd];exact (rfl:_=_)
structure S1 (ND:List Nd) (v:Val) (i:Int) (d:Nd):Prop where
 ah:cQ ND i=some d
 k:v.k=d.ag
 leaf:d.ag < 5->v.ks=[]
 enum:d.ag=4->0<=v.n/\v.n < d.ae.length
 kids:5<=d.ag->(kidsL d v).length=v.ks.length/\fitVs ND v.ks (kidsL d v)=true
 tag:d.ag=8->∃ e,rb d v=some e/\d.ay[v.n.toNat]? = some e/\0<=v.n/\v.n < d.ay.length/\(e.bare=true↔v.ks=[])
 opt:d.ag=6->v.ks.length<=1
theorem Co {L:Nat} {ND:List Nd} (cj:∀ n∈ND,dX L ND.length n) {v:Val} {i:Int} (h:fitV ND v i=true):∃ d,S1 ND v i d:=by
 obtain ⟨k,n,s,ks⟩:=v;rw [fitV] at h
 cases hd:cQ ND i with
 | none=>rw [hd] at h;cases h
 | some d=>
  rw [hd] at h;simp only at h;have hN:=cj d (mG (dx hd).2);have mr:=hN.k1;have Mu:=hN.k8;by_cases h5:d.ag < 5
  ·rw [if_pos h5] at h;unfold AL at h;by_cases hc:0 < (Val.mk k n s ks).ks.length∨((Val.mk k n s ks).k≠3/\(Val.mk k n s ks).s≠al)∨((Val.mk k n s ks).k=3/\(Val.mk k n s ks).n≠0)
   ·rw [if_pos hc] at h;cases h
   rw [if_neg hc] at h
   have LP:ks=[]:=by
    cases ks with
    | nil=>rfl
    | cons a b=>exact (hc (.inl (by simp [Val.ks]))).elim
   have hk:k=d.ag/\(d.ag=4->0<=n/\n < d.ae.length):=by
    rcases (show d.ag=1∨d.ag=2∨d.ag=3∨d.ag=4 by omega) with c | c | c | c
    all_goals
     simp [c,Val.k,Val.n] at h;simp only [c];constructor
     ·first | exact of_decide_eq_true h.1 | exact of_decide_eq_true h.1.1
     ·first | (intro;omega) | exact fun _=>⟨of_decide_eq_true h.1.2,of_decide_eq_true h.2⟩
   exact ⟨d,{ ah:=hd,k:=hk.1,leaf:=fun _=>LP,enum:=hk.2,kids:=fun h=>by omega,tag:=fun h=>by omega,opt:=fun h=>by omega }⟩
  ·rw [if_neg h5,Bool.and_eq_true] at h;obtain ⟨hB,hf⟩:=h;have hlen:=sG (by omega) hB;have QK:=hB;unfold ff at hB;by_cases c:d.ag=5∨d.ag=6
   ·rw [if_pos c] at hB;simp only [Bool.and_eq_true,decide_eq_true_eq] at hB;exact ⟨d,{ ah:=hd,k:=hB.1.2,leaf:=fun h=>by omega,enum:=fun h=>by omega,kids:=fun _=>⟨hlen,hf⟩,tag:=fun h=>by omega,opt:=fun h=>by have:=hB.2;rw [if_pos h] at this;omega }⟩
   rw [if_neg c] at hB;by_cases c7:d.ag=7
   ·rw [if_pos c7] at hB;simp only [Bool.and_eq_true,decide_eq_true_eq] at hB;exact ⟨d,{ ah:=hd,k:=by rw [c7];exact hB.1.2,leaf:=fun h=>by omega,enum:=fun h=>by omega,kids:=fun _=>⟨hlen,hf⟩,tag:=fun h=>by omega,opt:=fun h=>by omega }⟩
   rw [if_neg c7] at hB
   cases ht:rb d (.mk k n s ks) with
   | none=>rw [ht] at hB;cases hB
   | some e=>
    have Mi:=ht;unfold rb at Mi;split at Mi
    ·rename_i hr;have mn:kidsL d (.mk k n s ks)=if e.bare=true then [] else [e.to]:=by unfold kidsL;rw [if_neg c,if_neg c7,ht]
     refine ⟨d,{ ah:=hd,k:=by have:=hr.1;omega,leaf:=fun h=>by omega,enum:=fun h=>by omega,kids:=fun _=>⟨hlen,hf⟩,tag:=fun _=>⟨e,ht,Mi,hr.2.1,hr.2.2,?_⟩,opt:=fun h=>by omega }⟩;rw [mn] at hlen;constructor
     ·intro hb;rw [if_pos hb] at hlen;exact List.eq_nil_of_length_eq_zero hlen.symm
     ·intro LP;rw [LP] at hlen;cases hb:e.bare
      ·rw [hb] at hlen;simp at hlen
      ·rfl
    ·cases Mi
structure CH where
 k:Int
 n:Int
 s:ByteArray
def FW (f:Nat->Nat->Bool) (n:Nat) (a b:Int):Bool:=decide (0<=a) && decide (a < n) && decide (0<=b) && decide (b < n) && f a.toNat b.toNat
def AM (f:Nat->Nat->Bool) (n a b:Nat):Nat:=(dP f n a b).getD 0
def w5 (f:Nat->Nat->Bool) (n:Nat):Nat:=(ez f n []).getD 0
theorem FX {f:Nat->Nat->Bool} {n a b:Nat} (ha:a < n) (hb:b < n):FW f n a b=f a b:=by simp [FW,ha,hb]
theorem w6 {f:Nat->Nat->Bool} {n a b:Nat} (h:dA f n) (ha:a < n) (hb:b < n):dP f n a b=some (AM f n a b):=by
 obtain ⟨k,hk⟩:=h.jn a b ha hb;simp [AM,hk]
theorem FY {f:Nat->Nat->Bool} {n a b:Nat} (h:dA f n) (ha:a < n) (hb:b < n):AM f n a b < n:=(p8 (w6 h ha hb)).1
theorem sH {f:Nat->Nat->Bool} {n:Nat} (h:dA f n):ez f n []=some (w5 f n):=by
 obtain ⟨c,hc⟩:=nN h [] (fun _ h=>by cases h);simp [w5,hc]
theorem Ik {f:Nat->Nat->Bool} {n:Nat} (h:dA f n):w5 f n < n:=j1 (sH h)
section
variable (ae:List ByteArray) (tc:List DV) (rows:List Nat) (js:List Int)
theorem Cp (hr:cA rows) (hl:rows.length=ae.length) (a b:Int) :
  EvP Tryz.prog 88 [.pt (dW ae tc rows js) 0,.v (.int .i64 a),.v (.int .i64 b)] (.v (.bool (hasB rows a b))):=by
 have h1:=sc ae tc rows js;have h2:=gP rows hr a b;have hB:hasB rows a b=(decide (0<=a) && decide (a < ae.length) && decide (0<=b) && decide (b < ae.length) && aD rows a.toNat b.toNat):=by rw [<- hl];all_goals rfl
 generalize hasB rows a b=h at h2 hB ⊢;refine ev_go (P:=Tryz.prog) tt tt_ok 5000 24 [.tmp 6] Tryz.func88 rfl Tryz.ntmps88 rfl (nL rfl) (fun E9 w9 hn9 hm9=>?_);refine call_p rH (h1 a) ax rfl ?_;refine br (fun g=>?_) (fun g=>?_)
 ·refine call_p rH (h1 b) ax rfl ?_;refine br (fun g2=>?_) (fun g2=>?_)
  ·refine call_p vj (h2) ax rfl ?_;exact (rfl:_=_)
  ·refine (congrArg (fun b=>DV.v (.bool b)) ?_:_=_);rw [hB];simp only [Bool.and_assoc] at g g2 ⊢;cases hx:decide (0<=b)<;>cases hy:decide (b < ae.length)<;>simp_all [pickB]
 ·refine (congrArg (fun b=>DV.v (.bool b)) ?_:_=_);rw [hB];cases hx:decide (0<=a)<;>cases hy:decide (a < ae.length)<;>simp_all [pickB]
end
structure Cq (n:Nat) (f:Nat->Nat->Bool) (ae:List ByteArray) (LC:List DV):Prop where
 ok:dA f n
 n32:n<=32
 nl:ae.length=n
 len:EvP Tryz.prog 195 [.pt LC 0] (.v (.int .i64 n))
 leq:∀ a b:Int,EvP Tryz.prog 88 [.pt LC 0,.v (.int .i64 a),.v (.int .i64 b)] (.v (.bool (FW f n a b)))
 join:∀ a b:Nat,a < n->b < n->EvP Tryz.prog 173 [.pt LC 0,.v (.int .i64 a),.v (.int .i64 b)] (.v (.int .i64 (AM f n a b:Nat)))
 bot:EvP Tryz.prog 138 [.pt LC 0] (.v (.int .i64 (w5 f n:Nat)))
abbrev bZ (S:Sch):Nat->Nat->Bool:=fQ S.af.length (dG (au S.af) S.order)
theorem jF.S2 {S:Sch} {ND:List Nd} {PC:List DV} (hP:jF S ND PC):∃ LC,EvP Tryz.prog 38 [.pt PC 0] (.pt LC 0)/\Cq S.af.length (bZ S) (au S.af) LC:=by
 obtain ⟨ap,js,hX,hl⟩:=hP.lat;have iX:=dn S.af;have Ei:=(hP.fine).lat;obtain ⟨hL,Pg⟩:=ql Ei;have hpr:∀ p∈dG (au S.af) S.order,p.1 < S.af.length/\p.2 < S.af.length:=by have:=ow (qk Ei).2.2.1;rwa [dn] at this
 have eV:(cB S ap js).rows.length=S.af.length:=by
  show (closeR (cR S.af.length (dG (au S.af) S.order)) S.af.length).length=_;rw [cX,fO]
 have hr:cA (cB S ap js).rows:=gQ (tB (by omega) _ hpr) _ (by omega)
 refine ⟨_,hl,{
  ok:=hL,n32:=Pg,nl:=iX
  len:=?_
  leq:=fun a b=>?_
  join:=fun a b ha hb=>?_
  bot:=?_
  }⟩
 ·have:=mW (cB S ap js).ae (bK (cB S ap js).ae (cB S ap js).ap) (cB S ap js).rows (cB S ap js).js
  rwa [show (cB S ap js).ae.length=S.af.length from iX] at this
 ·have:=Cp (cB S ap js).ae (bK (cB S ap js).ae (cB S ap js).ap) (cB S ap js).rows (cB S ap js).js hr (by rw [eV];exact iX.symm) a b
  have he:hasB (cB S ap js).rows a b=FW (bZ S) S.af.length a b:=by
   unfold hasB FW;rw [eV];all_goals rfl
  rwa [he] at this
 ·have hz:=(hX.hj a b (by rw [show (cB S ap js).ae.length=S.af.length from iX];exact ha) (by rw [show (cB S ap js).ae.length=S.af.length from iX];exact hb)).1;rw [show (cB S ap js).ae.length=S.af.length from iX,show (cB S ap js).f=bZ S from rfl,w6 hL ha hb] at hz;exact pY (cB S ap js).ae (bK (cB S ap js).ae (cB S ap js).ap) (cB S ap js).rows (cB S ap js).js a b _ (by rw [show (cB S ap js).ae.length=S.af.length from iX];exact ha) (by rw [show (cB S ap js).ae.length=S.af.length from iX];exact hb) hX.hn hz
 ·have:=l6 (cB S ap js).ae (bK (cB S ap js).ae (cB S ap js).ap) (cB S ap js).rows (cB S ap js).js hX.hL hX.hn hX.hj
  rwa [show (cB S ap js).ae.length=S.af.length from iX,show (cB S ap js).f=bZ S from rfl,sH hL] at this
theorem sI {L:Nat} {ND:List Nd} {d:Nd} (hN:dX L ND.length d) {e:Ed} (he:e∈d.ay):(e.bare=false->e.to=(e.to.toNat:Nat)/\e.to.toNat < ND.length)/\(e.label=(e.label.toNat:Nat)/\e.label.toNat < L)/\(e.seen=(e.seen.toNat:Nat)/\e.seen.toNat < L):=by
 have hE:=hN.n5 e he;refine ⟨fun hb=>?_,?_,?_⟩
 ·obtain ⟨k,h1,h2⟩:=hE.to1 hb;rw [h1];exact ⟨by simp,by simpa using h2⟩
 ·obtain ⟨k,h1,h2⟩:=hE.lab;rw [h1];exact ⟨by simp,by simpa using h2⟩
 ·obtain ⟨k,h1,h2⟩:=hE.seen;rw [h1];exact ⟨by simp,by simpa using h2⟩
def zc (f:Nat->Nat->Bool) (n cm:Nat) (d:Nd) (e:Ed) (a:Nat):Nat:=
 if f (if d.ag < 7 then a else AM f n a e.label.toNat) cm=true then 2 else if e.ck≠0/\f (AM f n a e.seen.toNat) cm=true then 1 else 0
section
variable (ND:List Nd) (f:Nat->Nat->Bool) (n cm dep:Nat)
end
def cp (d:Nd) (z:Int) (j:Nat):Option Ed:=if d.ag=7 then d.ay[j]? else if d.ag=8 then d.ay[z.toNat]? else d.ay[0]?
def kZ (f:Nat->Nat->Bool) (n:Nat) (d:Nd) (e:Ed) (a:Nat):Nat:=if d.ag < 7 then a else AM f n a e.label.toNat
section
variable (ND:List Nd) (f:Nat->Nat->Bool) (L cm:Nat)
end
section
variable {ND:List Nd} {f:Nat->Nat->Bool} {L cm:Nat}
theorem JQ {N:Nat} {d:Nd} {e:Ed} (hN:dX N ND.length d) (he:e∈d.ay) (hb:e.bare=false):0<=e.to/\∃ d',cQ ND e.to=some d':=by
 obtain ⟨k,hk,aq⟩:=(hN.n5 e he).to1 hb;refine ⟨by omega,ND[k],?_⟩;unfold cQ;rw [if_neg (by omega),hk,Int.toNat_natCast,gE aq]
end
section
variable (ND:List Nd) (f:Nat->Nat->Bool) (L cm:Nat)
end
section
variable {ND:List Nd} {f:Nat->Nat->Bool} {L cm:Nat}
theorem Il (d:Nd) (e:Ed) (a:Nat):zc f L cm d e a=if f (kZ f L d e a) cm=true then 2 else if e.ck≠0/\f (AM f L a e.seen.toNat) cm=true then 1 else 0:=rfl
theorem Im {N:Nat} {d:Nd} {e:Ed} {a:Nat} (hL:dA f L) (hN:dX L N d) (hm:e∈d.ay) (ha:a < L):kZ f L d e a < L:=by
 obtain ⟨k,hk,hl⟩:=(hN.n5 e hm).lab;unfold kZ;split
 ·exact ha
 ·exact FY hL ha (by rw [hk,Int.toNat_natCast];exact hl)
end
def bX (v:Val) (k n:Int) (s:ByteArray):Bool:=decide (v.k=k) && decide (v.n=n) && decide (v.s=s) && decide (v.ks.length=0)
def fY (e:Ed) (d:Nd) (v:Val):Bool:=
 if e.ck=1/\d.ag=2 then
  (if bX v 9 e.wide al=true then !(aY d.lo e.cn).2
   else bX v 10 v.n al && decide (v.n % e.cn=0) && (aY d.hi e.cn).2 && decide (v.n<=(aY d.hi e.cn).1) && (!(aY d.lo e.cn).2 || decide ((aY d.lo e.cn).1<=v.n)))
 else if e.ck=2/\d.ag=3 then bX v 11 0 v.s && decide ((v.s.size:Int)<=d.most) && decide (headL e.cn.toNat (tx v.s)=tx v.s)
 else if e.ck=3/\d.ag=5 then bX v 12 v.n al && decide (0<=v.n) && decide (v.n<=d.most)
 else bX v 9 e.wide al
def shellF (d:Nd) (v:Val):Bool:=
 if v.k≠d.ag∨v.s≠al∨(d.ag≠8/\v.n≠0) then false
 else if d.ag=5 then decide ((v.ks.length:Int)<=d.most)
 else if d.ag=6 then decide (v.ks.length < 2)
 else if d.ag=7 then decide (v.ks.length=d.ay.length)
 else if v.n < 0∨(d.ay.length:Int)<=v.n then false
 else match d.ay[v.n.toNat]? with
  | none=>false
  | some e=>if e.bare=true then decide (v.ks.length=0) else decide (v.ks.length=1)
section
variable (ND:List Nd) (f:Nat->Nat->Bool) (L cm:Nat)
mutual
def seeV:Val->Int->Nat->Bool
 | .mk k n s ks,i,a=>match cQ ND i with
  | none=>false
  | some d=>if d.ag < 5 then fitV ND (.mk k n s ks) i else shellF d (.mk k n s ks) && seeVs ks d n a 0
def seeVs:List Val->Nd->Int->Nat->Nat->Bool
 | [],_,_,_,_=>true
 | x :: r,d,z,a,j=>(match cp d z j with
  | none=>false
  | some e=>if zc f L cm d e a=2 then seeV x e.to (kZ f L d e a) else if zc f L cm d e a=1 then (match cQ ND e.to with | none=>false | some t=>fY e t x) else bX x 9 e.wide al) && seeVs r d z a (j + 1)
end
end
section
variable {ND:List Nd} {f:Nat->Nat->Bool} {L cm:Nat}
theorem zd {ks:List Val} {d:Nd} {z:Int} {a j m:Nat} {x:Val} (h:ks[m]? = some x):seeVs ND f L cm (ks.drop m) d z a j=((match cp d z j with
  | none=>false
  | some e=>if zc f L cm d e a=2 then seeV ND f L cm x e.to (kZ f L d e a) else if zc f L cm d e a=1 then (match cQ ND e.to with | none=>false | some t=>fY e t x) else bX x 9 e.wide al) && seeVs ND f L cm (ks.drop (m + 1)) d z a (j + 1)):=by
 obtain ⟨hm,rfl⟩:=List.getElem?_eq_some_iff.1 h;rw [List.drop_eq_getElem_cons hm,seeVs]
structure PR (ND:List Nd) (d:Nd) (z:Int) (j:Nat) (e:Ed):Prop where
 n5:cp d z j=some e
 mem:e∈d.ay
 bare:e.bare=false
theorem sJ {N:Nat} {d:Nd} (hN:dX N ND.length d) (h5:5<=d.ag) {v:Val} (h:shellF d v=true) {m:Nat} (hm:m < v.ks.length):∃ e,PR ND d v.n m e:=by
 have h8:=hN.k8;unfold shellF at h;split at h
 ·cases h
 rename_i hc
 have A9:v.k=d.ag:=by
  by_cases c:v.k=d.ag
  ·exact c
  ·exact absurd (.inl c) hc
 rcases (show (d.ag=5∨d.ag=6)∨d.ag=7∨d.ag=8 by omega) with c | c | c
 ·obtain ⟨e,he,hb,_⟩:=hN.one c;refine ⟨e,?_,by rw [he];exact List.mem_singleton_self e,hb⟩;unfold cp;rw [if_neg (by omega),if_neg (by omega),he];rfl
 ·rw [if_neg (by omega),if_neg (by omega),if_pos c,decide_eq_true_iff] at h;obtain ⟨e,he⟩:∃ e,d.ay[m]? = some e:=⟨_,gE (by omega)⟩;refine ⟨e,?_,mG he,?_⟩
  ·unfold cp;rw [if_pos c,he]
  ·cases hb:e.bare
   ·rfl
   ·have:=hN.bare e (mG he) hb;omega
 ·rw [if_neg (by omega),if_neg (by omega),if_neg (by omega)] at h;split at h
  ·cases h
  cases he:d.ay[v.n.toNat]? with
  | none=>rw [he] at h;cases h
  | some e=>
   rw [he] at h;simp only at h;refine ⟨e,?_,mG he,?_⟩
   ·unfold cp;rw [if_neg (by omega),if_pos c,he]
   ·cases hb:e.bare
    ·rfl
    ·rw [if_pos hb,decide_eq_true_iff] at h;omega
theorem ze {v:Val} {k n:Int} {s:ByteArray}:bX v k n s=true↔v = .mk k n s []:=by
 unfold bX;rw [Bool.and_eq_true,Bool.and_eq_true,Bool.and_eq_true,decide_eq_true_iff,decide_eq_true_iff,decide_eq_true_iff,decide_eq_true_iff,List.length_eq_zero_iff];obtain ⟨q,z,t,ks⟩:=v;rw [Val.mk.injEq];constructor
 ·intro ⟨⟨⟨a,b⟩,c⟩,d⟩;exact ⟨a,b,c,d⟩
 ·intro ⟨a,b,c,d⟩;exact ⟨⟨⟨a,b⟩,c⟩,d⟩
theorem FZ {n u:Int} (hu:1<=u):aY n u=if n - n % u < -9223372036854775808 then (0,false) else (n - n % u,true):=by
 unfold aY;rw [if_neg (by omega)]
end
def bf (v:Val):Bool:=decide (v.k=2) || (decide (v.k=3) || ((decide (v.k=9) && (decide (1<=v.n) && decide (v.n<=64))) || (decide (10<=v.k) && decide (v.k<=12))))
def kx (v:Val):List UInt8:=
 if v.k=2 then fi v.n else if v.k=3 then kX (tx v.s) else if v.k=9 then 60 :: (List.replicate v.n.toNat 42 ++ [62])
 else if v.k=10 then [60,126] ++ fi v.n ++ [62] else if v.k=11 then [60] ++ kX (tx v.s) ++ [46,46,62] else [60,35] ++ fi v.n ++ [62]
def cq (v:Val):List UInt8:=if bf v=true then kx v else []
def S3 (d:Nd) (j:Nat):List UInt8:=match d.ay[j]? with | some e=>tx e.name | none=>[]
def dy (d:Nd) (v:Val):List UInt8:=
 if v.k=1 then (if v.n=1 then [116,114,117,101] else [102,97,108,115,101])
 else if v.k=4 then (match d.ae[v.n.toNat]? with | some s=>tx s | none=>[])
 else if v.k=5 then [91] else if v.k=6 then (if v.ks=[] then [110,111,110,101] else [115,111,109,101,40]) else if v.k=7 then [123]
 else if v.k=8 then (if v.ks=[] then S3 d v.n.toNat else S3 d v.n.toNat ++ [40])
 else cq v
def kh (v:Val):List UInt8:=if v.k=5 then [93] else if v.k=7 then [125] else if v.ks=[] then [] else [41]
section
variable (ND:List Nd)
mutual
def textV:Val->Int->List UInt8
 | .mk k n s ks,i=>match cQ ND i with
  | none=>[]
  | some d=>dy d (.mk k n s ks) ++ textVs ks d n 0 ++ kh (.mk k n s ks)
def textVs:List Val->Nd->Int->Nat->List UInt8
 | [],_,_,_=>[]
 | x :: r,d,z,j=>((if j=0 then [] else [44,32]) ++ (match cp d z j with
  | none=>[]
  | some e=>(if d.ag=7 then tx e.name ++ [58,32] else []) ++ textV x e.to)) ++ textVs r d z (j + 1)
end
mutual
def ki:Val->Int->Bool
 | .mk k n s ks,i=>match cQ ND i with
  | none=>false
  | some d=>if 9<=k then bf (.mk k n s ks) && decide (ks=[]) else if k≠d.ag then false else if d.ag < 5 then decide (ks=[]) && (decide (k≠4) || decide (0<=n/\n < d.ae.length)) else shellF d (.mk k n s ks) && eP ks d n 0
def eP:List Val->Nd->Int->Nat->Bool
 | [],_,_,_=>true
 | x :: r,d,z,j=>(match cp d z j with
  | none=>false
  | some e=>ki x e.to) && eP r d z (j + 1)
end
end
section
variable {ND:List Nd}
theorem nQ:∀ {l:List Val} {d:Nd} {z:Int} {j:Nat} {x:Val},textVs ND (l ++ [x]) d z j=textVs ND l d z j ++ ((if j + l.length=0 then [] else [44,32]) ++ (match cp d z (j + l.length) with
  | none=>[]
  | some e=>(if d.ag=7 then tx e.name ++ [58,32] else []) ++ textV ND x e.to))
 | [],d,z,j,x=>by simp only [List.nil_append,textVs,List.append_nil,List.length_nil,Nat.add_zero]
 | y :: r,d,z,j,x=>by
  rw [List.cons_append,textVs,textVs,nQ];simp only [List.length_cons];rw [show j + 1 + r.length=j + (r.length + 1) by omega];simp only [List.append_assoc]
theorem w7 {ks:List Val} {d:Nd} {z:Int} {e:Nat} {x:Val} {ed:Ed} (h:ks[e]? = some x) (he:cp d z e=some ed) :
  textVs ND (ks.take (e + 1)) d z 0=textVs ND (ks.take e) d z 0 ++ ((if e=0 then [] else [44,32]) ++ ((if d.ag=7 then tx ed.name ++ [58,32] else []) ++ textV ND x ed.to)):=by
 have hl:(ks.take e).length=e:=by rw [List.length_take];have:=(gS h).1;omega
 rw [List.take_add_one,h];show textVs ND (ks.take e ++ [x]) d z 0=_;rw [nQ,hl,Nat.zero_add,he]
theorem w8:∀ {ks:List Val} {d:Nd} {z:Int} {j m:Nat} {x:Val},eP ND ks d z j=true->ks[m]? = some x->∃ e,cp d z (j + m)=some e/\ki ND x e.to=true
 | [],_,_,_,_,_,_,h=>by simp at h
 | y :: r,d,z,j,m,x,hw,h=>by
  rw [eP,Bool.and_eq_true] at hw
  cases m with
  | zero=>
   simp only [List.getElem?_cons_zero,oI] at h;subst h;rw [Nat.add_zero]
   cases he:cp d z j with
   | none=>rw [he] at hw;exact absurd hw.1 (by simp)
   | some e=>rw [he] at hw;exact ⟨e,rfl,hw.1⟩
  | succ m=>
   rw [show j + (m + 1)=j + 1 + m by omega];exact w8 hw.2 (by simpa using h)
theorem uj {z:Int} (h:qS z):(fi z).length<=21:=vB h.1 h.2
theorem Cr {v:Val} (h:qS v.n) (hk:bf v=true):(kx v).length<=24 + 64 + 12 * v.s.size:=by
 have h1:=uj h;have h2:=jL (tx v.s);rw [bc] at h2;unfold kx
 repeat' split
 all_goals (try simp only [List.length_append,List.length_cons,List.length_nil,List.length_replicate])
 all_goals (try omega)
 rename_i c2 c3 c9;simp [bf,c2,c3,c9] at hk;omega
end
end Go.Proofs.YtfifjddnnmfeoaaGreat
set_option maxRecDepth 100000
namespace Go.Proofs
open Go.Shelf
def Tryz.lays105_ren:Go.Shelf.Ren:=⟨fun | 105=>69 | 212=>125 | 99=>126 | 165=>127 | 166=>124 | 170=>128 | 169=>80 | 263=>183 | 264=>184 | 206=>185 | 240=>178 | 241=>186 | 276=>219 | 277=>223 | n=>n,fun | 9=>9 | 3=>3 | 4=>4 | 20=>20 | 0=>0 | 46=>221 | 109=>222 | 5=>5 | 72=>161 | 76=>219 | 51=>278 | 146=>279 | 53=>212 | 148=>281 | 70=>158 | 37=>159 | 75=>215 | 127=>241 | 164=>296 | 80=>163 | n=>n,fun | n=>n⟩
theorem Tryz.lays105:Go.Proofs.Lays.n105 Tryz.prog Tryz.lays105_ren:={
 mixed:=by kernel_rfl
 f99:=Tryz.func126.trans (congrArg some (by kernel_rfl))
 f105:=Tryz.func69.trans (congrArg some (by kernel_rfl))
 f165:=Tryz.func127.trans (congrArg some (by kernel_rfl))
 f166:=Tryz.func124.trans (congrArg some (by kernel_rfl))
 f169:=Tryz.func80.trans (congrArg some (by kernel_rfl))
 f170:=Tryz.func128.trans (congrArg some (by kernel_rfl))
 f206:=Tryz.func185.trans (congrArg some (by kernel_rfl))
 f212:=Tryz.func125.trans (congrArg some (by kernel_rfl))
 f240:=Tryz.func178.trans (congrArg some (by kernel_rfl))
 f241:=Tryz.func186.trans (congrArg some (by kernel_rfl))
 f263:=Tryz.func183.trans (congrArg some (by kernel_rfl))
 f264:=Tryz.func184.trans (congrArg some (by kernel_rfl))
 f276:=Tryz.func219.trans (congrArg some (by kernel_rfl))
 f277:=Tryz.func223.trans (congrArg some (by kernel_rfl))
 t0:=Tryz.underlying0
 a0:=Tryz.isAgg0
 z0:=Tryz.sizeOf0
 v0:=Tryz.zeroValue0
 t3:=Tryz.underlying3
 a3:=Tryz.isAgg3
 z3:=Tryz.sizeOf3
 v3:=Tryz.zeroValue3
 t4:=Tryz.underlying4
 a4:=Tryz.isAgg4
 z4:=Tryz.sizeOf4
 v4:=Tryz.zeroValue4
 t5:=Tryz.underlying5
 a5:=Tryz.isAgg5
 z5:=Tryz.sizeOf5
 v5:=Tryz.zeroValue5
 t9:=Tryz.underlying9
 a9:=Tryz.isAgg9
 z9:=Tryz.sizeOf9
 v9:=Tryz.zeroValue9
 t20:=Tryz.underlying20
 a20:=Tryz.isAgg20
 z20:=Tryz.sizeOf20
 v20:=Tryz.zeroValue20
 t37:=Tryz.underlying159
 a37:=Tryz.isAgg159
 z37:=Tryz.sizeOf159
 v37:=Tryz.zeroValue159
 t46:=Tryz.underlying221
 a46:=Tryz.isAgg221
 z46:=Tryz.sizeOf221
 v46:=Tryz.zeroValue221
 t51:=Tryz.underlying278
 a51:=Tryz.isAgg278
 z51:=Tryz.sizeOf278
 v51:=Tryz.zeroValue278
 t53:=Tryz.underlying212
 a53:=Tryz.isAgg212
 z53:=Tryz.sizeOf212
 v53:=Tryz.zeroValue212
 t70:=Tryz.underlying158
 a70:=Tryz.isAgg158
 z70:=Tryz.sizeOf158
 v70:=Tryz.zeroValue158
 t72:=Tryz.underlying161
 a72:=Tryz.isAgg161
 z72:=Tryz.sizeOf161
 v72:=Tryz.zeroValue161
 t75:=Tryz.underlying215
 a75:=Tryz.isAgg215
 z75:=Tryz.sizeOf215
 v75:=Tryz.zeroValue215
 t76:=Tryz.underlying219
 a76:=Tryz.isAgg219
 z76:=Tryz.sizeOf219
 v76:=Tryz.zeroValue219
 t109:=Tryz.underlying222
 a109:=Tryz.isAgg222
 z109:=Tryz.sizeOf222
 v109:=Tryz.zeroValue222
 t127:=Tryz.underlying241
 a127:=Tryz.isAgg241
 z127:=Tryz.sizeOf241
 v127:=Tryz.zeroValue241
 t146:=Tryz.underlying279
 a146:=Tryz.isAgg279
 z146:=Tryz.sizeOf279
 v146:=Tryz.zeroValue279
 t148:=Tryz.underlying281
 a148:=Tryz.isAgg281
 z148:=Tryz.sizeOf281
 v148:=Tryz.zeroValue281
 t164:=Tryz.underlying296
 a164:=Tryz.isAgg296
 z164:=Tryz.sizeOf296
 v164:=Tryz.zeroValue296 }
theorem Tryz.Builder_Extra_105:Builder.Extra Tryz.prog Tryz.lays105_ren:={
 sizeBuilder:=by kernel_rfl
 liesBuilder:=by kernel_rfl
 t5:=Tryz.underlying5
 a5:=Tryz.isAgg5
 z5:=Tryz.sizeOf5
 v5:=Tryz.zeroValue5
 infoByte:=by kernel_rfl
 cellsByte:=by kernel_rfl
 sizeByte:=by kernel_rfl
 neB5:=by decide }
end Go.Proofs
namespace Go.Proofs.YtfifjddnnmfeoaaGreat
open Go Go.RowKit Dv Tryz
theorem repeatL_one (c:UInt8):∀ n:Nat,Lib.repeatL [c] n=List.replicate n c
 | 0=>rfl
 | n + 1=>by
  have:=repeatL_one c n;simp [Lib.repeatL,List.replicate_succ] at this ⊢;exact this
theorem xa (c:UInt8) (n:Nat) (hn:n<=64):EvP Tryz.prog 69 [.v (.string (ba [c])),.v (.int .i64 n)] (.v (.string (ba (List.replicate n c)))):=by
 refine Bv fun E w vs hE hv=>?_;simp only [RvL] at hv;obtain ⟨v1,s1,rfl,h1,v2,s2,rfl,h2,rfl⟩:=hv;have h1:=aN h1;have h2:=aN h2;subst h1 h2;refine (Any.strings_Repeat Tryz.lays105 Tryz.Builder_Extra_105 (ba [c]) n w (by omega) (by show 1 * n<=_;omega)).mono ?_;rintro e w' ⟨rfl,hw⟩;refine ⟨_,rfl,?_,hw⟩;unfold Rv;refine ⟨?_,rfl⟩;rw [show (ba [c]).data.toList=[c] from rfl,repeatL_one]
end Go.Proofs.YtfifjddnnmfeoaaGreat
set_option maxRecDepth 100000
namespace Go.Proofs.YtfifjddnnmfeoaaGreat
open Go Go.RowKit Dv Tryz
theorem zf (a b c:List UInt8):(ba a ++ ba b) ++ ba c=ba (a ++ b ++ c):=(congrArg (·++ ba c) (cN a b)).trans (cN _ _)
section
variable {v:Val}
theorem lf_2 (h:v.k=2):bf v=true/\cq v=fi v.n:=by
 have:bf v=true:=by simp [bf,h]
 exact ⟨this,by rw [cq,if_pos this,kx,if_pos h]⟩
theorem lf_3 (h:v.k=3):bf v=true/\cq v=kX (tx v.s):=by
 have:bf v=true:=by simp [bf,h]
 exact ⟨this,by rw [cq,if_pos this,kx,if_neg (by omega),if_pos h]⟩
theorem lf_9 (h:v.k=9) (h1:1<=v.n) (h2:v.n<=64):bf v=true/\cq v=60 :: (List.replicate v.n.toNat 42 ++ [62]):=by
 have:bf v=true:=by simp [bf,h,h1,h2]
 exact ⟨this,by rw [cq,if_pos this,kx,if_neg (by omega),if_neg (by omega),if_pos h]⟩
theorem JR (h:v.k=9) (h1:¬ (1<=v.n/\v.n<=64)):bf v=false/\cq v=[]:=by
 have:bf v=false:=by
  simp only [bf,h];simp;omega
 exact ⟨this,by rw [cq,if_neg (by rw [this];simp)]⟩
theorem lf_10 (h:v.k=10):bf v=true/\cq v=[60,126] ++ fi v.n ++ [62]:=by
 have:bf v=true:=by simp [bf,h]
 exact ⟨this,by rw [cq,if_pos this,kx,if_neg (by omega),if_neg (by omega),if_neg (by omega),if_pos h]⟩
theorem lf_11 (h:v.k=11):bf v=true/\cq v=[60] ++ kX (tx v.s) ++ [46,46,62]:=by
 have:bf v=true:=by simp [bf,h]
 exact ⟨this,by rw [cq,if_pos this,kx,if_neg (by omega),if_neg (by omega),if_neg (by omega),if_neg (by omega),if_pos h]⟩
theorem lf_12 (h:v.k=12):bf v=true/\cq v=[60,35] ++ fi v.n ++ [62]:=by
 have:bf v=true:=by simp [bf,h]
 exact ⟨this,by rw [cq,if_pos this,kx,if_neg (by omega),if_neg (by omega),if_neg (by omega),if_neg (by omega),if_neg (by omega)]⟩
theorem JS (h:v.k≠2/\v.k≠3/\v.k≠9/\v.k≠10/\v.k≠11/\v.k≠12):bf v=false/\cq v=[]:=by
 have:bf v=false:=by
  rw [Bool.eq_false_iff];intro c;simp [bf] at c;omega
 exact ⟨this,by rw [cq,if_neg (by rw [this];simp)]⟩
end
theorem nR (v:Val) (hs:v.s.size<=1099511627776) (hn:qS v.n):EvP Tryz.prog 27 [.agg (cH v)] (.tup [.v (.string (ba (cq v))),.v (.bool (bf v))]):=by
 have hp:=D7 v.n hn.1 hn.2;have lm:=uj hn;have hq:=y9 v.s hs;have S4:=jL (tx v.s);rw [bc] at S4;have hr:=fun (_:1<=v.n) (h2:v.n<=64)=>xa 42 v.n.toNat (by omega);have h2:=@lf_2 v;have h3:=@lf_3 v;have h9:=@lf_9 v;have S5:=@JR v;have ly:=@lf_10 v;have S6:=@lf_11 v;have Kz:=@lf_12 v;have mq:=@JS v;generalize cq v=S at *;generalize bf v=B at *;obtain ⟨k,n,s,ks⟩:=v;simp only [Val.k,Val.n,Val.s] at *;refine ev_go (P:=Tryz.prog) tt tt_ok 5000 52 [.tmp 2,.tmp 3] Tryz.func27 rfl Tryz.ntmps27 rfl (nL rfl) (fun E9 w9 hn9 hm9=>?_);refine br (fun c=>?_) (fun c=>?_)
 ·obtain ⟨rfl,rfl⟩:=h2 (by simpa using c);refine call_p KH (hp) ax rfl ?_;exact ⟨.tup [.v (.string _),.v (.bool _)],ax,rfl⟩
 have c2:¬ k=2:=by simpa using c
 refine br (fun c=>?_) (fun c=>?_)
 ·obtain ⟨rfl,rfl⟩:=h3 (by simpa using c);refine call_p Nq (hq) ax rfl ?_;exact ⟨.tup [.v (.string _),.v (.bool _)],ax,rfl⟩
 have c3:¬ k=3:=by simpa using c
 refine br (fun c=>?_) (fun c=>?_)
 ·have c9:k=9:=by simpa using c
  refine br (fun g=>?_) (fun g=>?_)
  ·obtain ⟨rfl,rfl⟩:=S5 c9 (by simp [ak] at g;omega);exact ⟨.tup [.v (.string _),.v (.bool _)],ax,rfl⟩
  ·have g:1<=n/\n<=64:=by simp [ak] at g;omega
   obtain ⟨rfl,rfl⟩:=h9 c9 g.1 g.2;have hr:=hr g.1 g.2;rw [show ((n.toNat:Nat):Int)=n by omega] at hr;refine call_p RG (hr) ax rfl ?_;refine ⟨by show 1 + (List.replicate n.toNat (42:UInt8)).length<=_;rw [List.length_replicate];omega,?_⟩;refine ⟨by rw [fM];show 1 + (List.replicate n.toNat (42:UInt8)).length + 1<=_;rw [List.length_replicate];omega,?_⟩;refine ⟨.tup [.v (.string _),.v (.bool _)],ax,?_⟩;exact kY (zf [60] _ [62])
 have c9:¬ k=9:=by simpa using c
 refine br (fun c=>?_) (fun c=>?_)
 ·obtain ⟨rfl,rfl⟩:=ly (by simpa using c);refine call_p KH (hp) ax rfl ?_;refine ⟨by show 2 + (fi n).length<=_;omega,?_⟩;refine ⟨by rw [fM];show 2 + (fi n).length + 1<=_;omega,?_⟩;refine ⟨.tup [.v (.string _),.v (.bool _)],ax,?_⟩;exact kY (zf [60,126] _ [62])
 have S7:¬ k=10:=by simpa using c
 refine br (fun c=>?_) (fun c=>?_)
 ·obtain ⟨rfl,rfl⟩:=S6 (by simpa using c);refine call_p Nq (hq) ax rfl ?_;refine ⟨by show 1 + (kX (tx s)).length<=_;omega,?_⟩;refine ⟨by rw [fM];show 1 + (kX (tx s)).length + 3<=_;omega,?_⟩;refine ⟨.tup [.v (.string _),.v (.bool _)],ax,?_⟩;exact kY (zf [60] _ [46,46,62])
 have S8:¬ k=11:=by simpa using c
 refine br (fun c=>?_) (fun c=>?_)
 ·obtain ⟨rfl,rfl⟩:=Kz (by simpa using c);refine call_p KH (hp) ax rfl ?_;refine ⟨by show 2 + (fi n).length<=_;omega,?_⟩;refine ⟨by rw [fM];show 2 + (fi n).length + 1<=_;omega,?_⟩;refine ⟨.tup [.v (.string _),.v (.bool _)],ax,?_⟩;exact kY (zf [60,35] _ [62])
 have S9:¬ k=12:=by simpa using c
 obtain ⟨rfl,rfl⟩:=mq ⟨c2,c3,c9,S7,S8,S9⟩;exact ⟨.tup [.v (.string _),.v (.bool _)],ax,rfl⟩
abbrev LQ (v:Val) (e:Nat):St:=⟨[(1,⟨[],.loc 0 0⟩),(4,⟨[],.v (.string (ba (60 :: List.replicate e 42)))⟩),(5,⟨[],.v (.int .i64 e)⟩)],[cH v],[]⟩
theorem zg (v:Val) (hs:v.s.size<=1099511627776) (hn:qS v.n):EvP Tryz.prog 28 [.agg (cH v)] (.tup [.v (.string (ba (cq v))),.v (.bool (bf v))]):=by
 have hp:=yd v.n hn.1 hn.2;have lm:=uj hn;have hq:=ui v.s hs;have S4:=jL (tx v.s);rw [bc] at S4;have h2:=@lf_2 v;have h3:=@lf_3 v;have h9:=@lf_9 v;have S5:=@JR v;have ly:=@lf_10 v;have S6:=@lf_11 v;have Kz:=@lf_12 v;have mq:=@JS v;generalize cq v=S at *;generalize bf v=B at *;obtain ⟨k,n,s,ks⟩:=v;simp only [Val.k,Val.n,Val.s] at *;refine ev_go (P:=Tryz.prog) tt tt_ok 5000 65 [.tmp 2,.tmp 3] Tryz.func28 rfl Tryz.ntmps28 rfl (nL rfl) (fun E9 w9 hn9 hm9=>?_);refine br (fun c=>?_) (fun c=>?_)
 ·obtain ⟨rfl,rfl⟩:=h2 (by simpa using c);refine call_p vf (hp) ax rfl ?_;exact ⟨.tup [.v (.string _),.v (.bool _)],ax,rfl⟩
 have c2:¬ k=2:=by simpa using c
 refine br (fun c=>?_) (fun c=>?_)
 ·obtain ⟨rfl,rfl⟩:=h3 (by simpa using c);refine call_p Nr (hq) ax rfl ?_;exact ⟨.tup [.v (.string _),.v (.bool _)],ax,rfl⟩
 have c3:¬ k=3:=by simpa using c
 refine br (fun c=>?_) (fun c=>?_)
 ·have c:(k=9/\1<=n)/\n<=64:=by
   simp [pickB_and] at c;omega
  obtain ⟨rfl,rfl⟩:=h9 c.1.1 c.1.2 c.2;refine aw (fun j st=>∃ e:Nat,st=LQ (.mk k n s ks) e/\e<=n.toNat/\j=n.toNat - e) n.toNat (LQ (.mk k n s ks) 0) (weak_mk ⟨_,rfl⟩ wA rfl rfl rfl Di) ⟨0,rfl,by omega,by omega⟩ ?_;rintro _ st ⟨e,rfl,he,rfl⟩;refine br (fun hL=>?_) (fun hL=>?_)
  ·have aq:(e:Int) < n:=by simpa using hL
   refine ⟨by show (List.replicate e (42:UInt8)).length + 1 + 1<=_;rw [List.length_replicate];omega,?_⟩;have Ta:ba (60 :: List.replicate e 42) ++ ba [42]=ba (60 :: List.replicate (e + 1) 42):=(cN (60 :: List.replicate e 42) [42]).trans (congrArg ba (by rw [List.replicate_succ'];rfl));refine ⟨LQ (.mk k n s ks) (e + 1),(weak_mk ⟨_,rfl⟩ wA rfl rfl rfl (by repeat' (first | exact trivial | exact ai rfl | exact aj (ej (n:=65) (by omega) (by omega)) | exact tw Ta | refine ⟨⟨_,rfl,?_⟩,?_⟩))),n.toNat - (e + 1),by omega,e + 1,rfl,by omega,rfl⟩
  ·have bJ:e=n.toNat:=by
    have:¬ (e:Int) < n:=by simpa using hL
    omega
   subst bJ;refine ⟨by show (List.replicate n.toNat (42:UInt8)).length + 1 + 1<=_;rw [List.length_replicate];omega,?_⟩;refine ⟨.tup [.v (.string _),.v (.bool _)],ax,?_⟩;exact kY (cN _ [62])
 have c9:¬ (k=9/\1<=n/\n<=64):=by simp [pickB_and] at c;omega
 refine br (fun c=>?_) (fun c=>?_)
 ·obtain ⟨rfl,rfl⟩:=ly (by simpa using c);refine call_p vf (hp) ax rfl ?_;refine ⟨by show 2 + (fi n).length<=_;omega,?_⟩;refine ⟨by rw [fM];show 2 + (fi n).length + 1<=_;omega,?_⟩;refine ⟨.tup [.v (.string _),.v (.bool _)],ax,?_⟩;exact kY (zf [60,126] _ [62])
 have S7:¬ k=10:=by simpa using c
 refine br (fun c=>?_) (fun c=>?_)
 ·obtain ⟨rfl,rfl⟩:=S6 (by simpa using c);refine call_p Nr (hq) ax rfl ?_;refine ⟨by show 1 + (kX (tx s)).length<=_;omega,?_⟩;refine ⟨by rw [fM];show 1 + (kX (tx s)).length + 3<=_;omega,?_⟩;refine ⟨.tup [.v (.string _),.v (.bool _)],ax,?_⟩;exact kY (zf [60] _ [46,46,62])
 have S8:¬ k=11:=by simpa using c
 refine br (fun c=>?_) (fun c=>?_)
 ·obtain ⟨rfl,rfl⟩:=Kz (by simpa using c);refine call_p vf (hp) ax rfl ?_;refine ⟨by show 2 + (fi n).length<=_;omega,?_⟩;refine ⟨by rw [fM];show 2 + (fi n).length + 1<=_;omega,?_⟩;refine ⟨.tup [.v (.string _),.v (.bool _)],ax,?_⟩;exact kY (zf [60,35] _ [62])
 have S9:¬ k=12:=by simpa using c
 by_cases c:k=9
 ·obtain ⟨rfl,rfl⟩:=S5 c (by omega);exact ⟨.tup [.v (.string _),.v (.bool _)],ax,rfl⟩
 ·obtain ⟨rfl,rfl⟩:=mq ⟨c2,c3,c,S7,S8,S9⟩;exact ⟨.tup [.v (.string _),.v (.bool _)],ax,rfl⟩
end Go.Proofs.YtfifjddnnmfeoaaGreat
set_option maxRecDepth 100000
namespace Go.Proofs.YtfifjddnnmfeoaaGreat
open Go Go.RowKit Dv Tryz
end Go.Proofs.YtfifjddnnmfeoaaGreat
set_option maxRecDepth 100000
namespace Go.Proofs.YtfifjddnnmfeoaaGreat
open Go Go.RowKit Dv Tryz
end Go.Proofs.YtfifjddnnmfeoaaGreat
set_option maxRecDepth 100000
namespace Go.Proofs.YtfifjddnnmfeoaaGreat
open Go Go.RowKit Dv Tryz
theorem hY {s:ByteArray} (h:a7 s=true):s.size<=32:=by
 unfold a7 at h;simp only [Bool.and_eq_true,decide_eq_true_eq] at h;exact h.2.1
end Go.Proofs.YtfifjddnnmfeoaaGreat
