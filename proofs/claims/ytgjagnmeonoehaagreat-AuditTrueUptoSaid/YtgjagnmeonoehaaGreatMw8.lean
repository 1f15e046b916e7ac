/- Part 8 of the proof: Sample: the root's value along a path; First and second values: how great they are; Sample: Along, Pair; the weight of a value along a path; Sample: Pair; First and second values fit, and are unlike: plain; Values along paths fit, lead to what was put there, and only that is set: plain; Rows of an audit, and values that differ at their places: plain; The document's Line; the program's Text of an audit; The laws of audits' rows and texts; Steps of a drawn region: elements of rows whose cells nobody else knows, read and written whole; The reference of chapters 15 and 17 on schemas: Placeless, Same, Great; The law of a type's text: the call returns true; The law of schemas without places: the call returns true; What is wrong with a schema without places; the nodes of its plan; Nodes whose edges may be written: slices.Clone, Plan.Node; Rules for the evaluator: an element of a row whose cells nobody else knows is written, the state weakened behind it; The law that a plan's edges lead to nodes: rows of edges, with and without places; slices.Reverse of a row of steps that nobody else knows; UTF-8: the document's begins, left, Decode; Tables of runes; the unit at a place: the program's and the document's; A text's first units: the document's Head, the program's heads, floors; What is read of a value, as the plain data; Reading of values whose numbers are ints, and of arrays of two; The numbers of a plan's nodes are ints; What is seen of a value: the document's Edge, Coarse, Erase, Seen; The document's Kid, Get, Set of a value that fits; The document's Same of values, Set; Alike, differ: the document's; Alike: the program's sees, edge, step, coarsely, differ; Alike: the program's differ; Alike: the program's both, Differ, Alike; Rules for the evaluator: the library's Builder: WriteByte, WriteString of any text; a call that is handed a Builder; Texts in quotes: plain; numbers in sixteens; Texts in quotes: numbers in sixteens, which runes may steer a terminal; Texts in quotes: short escapes, kinds of runes; Texts in quotes: the unit at a place, as it is written; Texts in quotes: the document's unit; the program's and the document's Quote; Texts in quotes: the program's and the document's Quote; Which values may be what is seen of one, plain; How what is seen of values is written: plain; The library's strings.Repeat, laid at this program by the kit's tool (lay-plain; wip/tools/plain2tpl.py); How values without names are written: the program's and the document's Leaf; How what is seen of values is written: the program's plain, word, of; What is known of values that are written; how long their texts are: plain; How what is seen of values is written: the program's write; How what is seen of values is written: Compact; the document's open, end, Text; How what is seen of values is written: the document's Text; what is seen may be written; What is seen of a value: the program's look, sees, coarsely, edge, coarse; What is seen of a value: the program's erase, Erase, Hidden; Which values may be what is seen of one: shell, May, outer, plain, the document's May; Which values may be what is seen of one: the program's fits, Fits, the document's Fits, Seeable; The law of what may be seen; What is seen may be written; the example of chapter 33; the laws of Leaf and Compact; The example of chapter 33; the laws of Leaf and Compact: the calls return true; The law of Compact: the call returns true; What an audit says is true: the law; What an audit says is true: the law. No condition. -/
import Derived.OpenShut
import Derived.Shelf.Strings.Repeat
import Derived.Test.YtgjagnmeonoehaaGreatMw2
import Derived.Test.YtgjagnmeonoehaaGreatMw3
import Derived.Test.YtgjagnmeonoehaaGreatMw4
import Derived.Test.YtgjagnmeonoehaaGreatMw5
import Derived.Test.YtgjagnmeonoehaaGreatMw6
import Derived.Test.YtgjagnmeonoehaaGreatMw7
set_option linter.all false
set_option maxRecDepth 100000
namespace Go.Proofs.YtgjagnmeonoehaaGreat
open Go Go.RowKit Dv Go.Proofs.Tryz
def aeH:Option Val->DV
 | some v=>.tup [.agg (bg v),.v (.bool true)]
 | none=>.tup [.agg (bg zeroV),.v (.bool false)]
theorem Vl (R:Option Val):aeH R = .tup [.agg (bg (R.getD zeroV)),.v (.bool R.isSome)]:=by cases R<;>rfl
theorem N1 {sz:List Nat} {l:List Pl} {e:Nat} {q:Pl} (h:l[e]? = some q):totF sz (l.take (e + 1))=totF sz (l.take e) + BX sz q:=by
 rw [dZ h,BZ]
section
variable (PC:List DV) (ND:List Nd) (D:List Nat) (K:List Bool) (sz ot:List Nat) (p:List Stp) (l:List Pl)
abbrev aeI (x:Val) (j m e:Nat):St:=
 ⟨[eX 0 (od PC ND D K sz ot),aM 1 3 (aF p),aE 5 0,aE 6 1,au 8 j,aM 11 1 (dInts (G6 l)),aM 12 1 (dInts (G7 l)),au 13 m,aM 58 3 (aF p),au 59 ((aF p).length),au 60 e],[bg x,JP],[]⟩
abbrev Sk (x:Val) (j:Int):St:=
 ⟨[eX 0 (od PC ND D K sz ot),aM 1 3 (aF p),aE 5 0,aE 6 1,aM 11 1 (dInts (G6 l)),aM 12 1 (dInts (G7 l)),au 16 j],[bg x,JP],[]⟩
end
set_option maxHeartbeats 4000000 in
theorem Ha {S:Sch} {ND:List Nd} {PC:List DV} (hP:dX S ND PC) (ot:List Nat) (K:List Bool) (p:List Stp) (hp:p.length<=1099511627776) (hs:∀ s∈p,s.s.size<=4611686018427387904) (rt:Nat) (mQ:dw S=rt) (dK:rt < ND.length) (x:Val) (hx:x.wt<=1099511627776) :
  EvP prog 91 [.pt (od PC ND (aQ ND) K (bY ND) ot) 0,.sl 3 (aF p) none,.agg (bg x)] (aeH (o9 ND (bY ND) (aQ ND) (walkV ND (aH S) S.ae.length p rt (dC (aH S) S.ae.length)) (stpsV ND p rt) x)):=by
 have hw:=nN hP p hp hs rt mQ dK;have u1:=ef p
 have bW:∀ z∈bY ND,z<=4097:=fun z hz=>by
  obtain ⟨i,hi,rfl⟩:=List.getElem_of_mem hz;have:=(wI (il ND) (i:=i)).2
  rwa [bN,gE hi] at this
 have hszl:(bY ND).length=ND.length:=DK _ _;have Mz:(aQ ND).length=ND.length:=depN_len _ _;have Mn:=(Lw x).1;have YL:=vd _ x (aV _) hx
 cases hW:walkV ND (aH S) S.ae.length p rt (dC (aH S) S.ae.length) with
 | none=>
  rw [hW] at hw;have hw:EvP prog 87 [.pt PC 0,.sl 3 (aF p) none] (.tup [.v (.int .i64 (-1)),.v (.int .i64 (-1)),.v (.bool false)]):=hw;obtain ⟨xk,xn,xs,xl⟩:=x;refine eG 117 [.cell 6 34,.tmp 7] func91 rfl ntmps91 rfl fun _ _ _ _=>?_;refine cP xG hw ?_;refine dI ?_;exact ⟨.tup [.agg (bg zeroV),.v (.bool false)],ax,rfl⟩
 | some jb=>
 obtain ⟨j,b⟩:=jb;rw [hW] at hw;have hw:EvP prog 87 [.pt PC 0,.sl 3 (aF p) none] (.tup [.v (.int .i64 (j:Nat)),.v (.int .i64 (b:Nat)),.v (.bool true)]):=hw;have lO:=ld hP _ x (aV _) hx j;have Sm:=G8 (aQ ND) K (bY ND) ot hP Mz hP.S1 p hp hs rt mQ dK hW;have hplc:=sX hP hP.S1 p hp hs rt mQ dK hW;have iz:=tget_spec hP hx j [] (by simp);have hda:=pY hP.ok (il ND) p rt _ hW;have ZS:=wM hP.ok (il ND) x j;obtain ⟨tf,ou⟩:=o8 p rt _ hW;have On:=fun (q:Pl) (hq:ql ND q)=>DT PC ND (aQ ND) K (bY ND) ot hq hszl bW (hP.ok _ (mG hq.ah)) (hP.S1 _ (mG hq.ah));have aeJ:=fun (q:Pl) (hq:ql ND q) h1 h2=>DU hP K (bY ND) ot hq h1 h2;have hFl:o9 ND (bY ND) (aQ ND) (some (j,b)) (stpsV ND p rt) x=if fitV ND x j=true/\(stpsV ND p rt).all (lX (aQ ND))=true/\sE x + totF (bY ND) (stpsV ND p rt) < 4097 then some (alnV (bu ND (aQ ND)) (stpsV ND p rt) x) else none:=rfl
 rw [hFl];clear hFl hW;generalize hLs:stpsV ND p rt=l at *;have aez:(dInts (G6 l)).length=p.length:=by rw [aU,List.length_map,tf]
 have aeA:(dInts (G7 l)).length=p.length:=by rw [aU,List.length_map,tf]
 have aeK:∀ e:Nat,e<=p.length->IntKind.i64.wrap ((e:Int) - 1)=(e:Int) - 1:=fun e he=>wrap64 (by omega) (by omega)
 cases hf:fitV ND x j with
 | false=>
  rw [hf] at lO;rw [aj (by simp)];obtain ⟨xk,xn,xs,xl⟩:=x;refine eG 117 [.cell 6 34,.tmp 7] func91 rfl ntmps91 rfl fun _ _ _ _=>?_;refine cP xG hw ?_;refine dI ?_;refine cD H8 lO ?_;exact ⟨.tup [.agg (bg zeroV),.v (.bool false)],ax,rfl⟩
 | true=>
 rw [hf] at lO;rw [hf,ap rfl] at iz;have iz:EvP prog 179 [.pt PC 0,.v (.int .i64 j),.agg (bg x),.sl 3 [] none] (.tup [.agg (bg x),.v (.int .i64 (j:Nat)),.v (.bool true)]):=iz
 cases ha:l.all (lX (aQ ND)) with
 | false=>
  rw [ha] at Sm;rw [aj (by simp)];obtain ⟨xk,xn,xs,xl⟩:=x;refine eG 117 [.cell 6 34,.tmp 7] func91 rfl ntmps91 rfl fun _ _ _ _=>?_;refine cP xG hw ?_;refine dI ?_;refine cD H8 lO ?_;refine cD VS Sm ?_;exact ⟨.tup [.agg (bg zeroV),.v (.bool false)],ax,rfl⟩
 | true=>
 rw [ha] at Sm;have hdq:=(hda ha (by have:=ZS hf;simpa using this)).2
 have rU:∀ (e:Nat) q (y:Val),l[e]? = some q->EvP prog 180 [.pt (od PC ND (aQ ND) K (bY ND) ot) 0,.v (.int .i64 q.i),.v (.int .i64 q.k),.agg (eU q.s),.agg (bg y)] (.agg (bg (gx (bu ND (aQ ND)) q y))):=fun e q y hq=>by
  obtain ⟨s,AN⟩:∃ s,p[e]? = some s:=⟨_,gE (by have:=(gS hq).1;omega)⟩;obtain ⟨q',_,jX,_,aZ,_⟩:=ou e s AN;rw [hq] at jX;cases jX;have hm:=mG hq;exact aeJ q aZ (List.all_eq_true.1 ha q hm) (hdq q hm) y
 have aeL:(True/\True/\sE x + totF (bY ND) l < 4097)↔cg (sE x + totF (bY ND) l)≠4097:=by
  unfold cg;simp only [true_and];omega
 have aeM:=lO;have aeN:=Sm;clear aeJ hda ZS hdq lO Sm hf aeL;generalize hF:bu ND (aQ ND)=F at *;have Hv:sE x + totF (bY ND) l < 4097↔cg (sE x + totF (bY ND) l)≠4097:=by unfold cg;omega
 generalize hT:totF (bY ND) l=T at *;generalize hC:sE x=C at *;have Vi:alnV F (l.drop p.length) x=x:=by rw [<- tf,List.drop_length];all_goals rfl
 generalize hXg:x=X at *;obtain ⟨xk,xn,xs,xl⟩:=X;refine eG 117 [.cell 6 34,.tmp 7] func91 rfl ntmps91 rfl fun _ _ _ _=>?_;refine cP xG hw ?_;refine dI ?_;refine cD H8 aeM ?_;refine cD VS aeN ?_;refine cP VT hplc ?_;refine cP VU YL ?_;refine cP nW (ey C) ?_;refine lJ (fun e=>aeI PC ND (aQ ND) K (bY ND) ot p l (.mk xk xn xs xl) j (cg (C + totF (bY ND) (l.take e))) e) p.length (bZ 2 wA wB) ?_;intro e he;refine br ?_ ?_<;>intro hL
 ·have aq:e < p.length:=sV u1 hL;obtain ⟨s,AN⟩:=gX aq;obtain ⟨q,b2,hq,Ei,aZ,_⟩:=ou e s AN;have On:=On q aZ;have jl:=N1 (sz:=bY ND) hq;have Xi:(dInts (G6 l))[e]? = some [.v (.int .i64 ((q.i:Nat):Int))]:=aR (by rw [List.getElem?_map,hq];rfl);have Xj:(dInts (G7 l))[e]? = some [.v (.int .i64 ((q.k:Nat):Int))]:=aR (by rw [List.getElem?_map,hq];rfl);generalize BX (bY ND) q=X at On jl;have Mp:=iM (C + totF (bY ND) (l.take e));have oe:=iM X;have M8:=wrapN (a:=cg (C + totF (bY ND) (l.take e))) (b:=cg X) (by omega) (by omega);have G5:cg (cg (C + totF (bY ND) (l.take e)) + cg X)=cg (C + totF (bY ND) (l.take (e + 1))):=by rw [jl,J0,ZB,Nat.add_assoc]
  have iP:=aG aq (show p.length<=4611686018427387904 by omega);subst Ei;obtain ⟨qi,qd,qk,qs⟩:=q;obtain ⟨sk,sn,ss⟩:=qs;simp only at AN Xi Xj On;refine iX (eu AN) ?_;refine dI ?_;refine ⟨_,⟨by omega,Xi⟩,?_⟩;refine ⟨_,⟨by omega,Xj⟩,?_⟩;refine cD abq On ?_;refine cD nW (ey (cg (C + totF (bY ND) (l.take e)) + cg X)) ?_ (mc M8);exact rE ⟨_,by omega,e + 1,rfl,by omega,rfl⟩ (bZ 2 (lY iP G5) (wB2 iP G5))
 have hge:e=p.length:=sW u1 hL;subst hge;rw [<- tf,List.take_length,hT];refine br ?_ ?_<;>intro c
 ·have c:cg (C + T)=4097:=by grind
  rw [aj (fun h=>(Hv.1 h.2.2) c)];exact ⟨.tup [.agg (bg zeroV),.v (.bool false)],ax,rfl⟩
 have c:cg (C + T)≠4097:=by
  intro h;rw [h] at c;simp at c
 rw [ap ⟨rfl,rfl,Hv.2 c⟩];have s7:IntKind.i64.wrap (((aF p).length:Int) - 1)=(p.length:Int) - 1:=by rw [u1];exact aeK _ (aV _)
 refine dS ?_;refine cD abr iz ?_;refine aY (fun i st=>∃ (e:Nat) (y:Val),st=Sk PC ND (aQ ND) K (bY ND) ot p l y ((e:Int) - 1)/\e<=p.length/\y=alnV F (l.drop e) (.mk xk xn xs xl)/\e=i) p.length (Sk PC ND (aQ ND) K (bY ND) ot p l (.mk xk xn xs xl) ((p.length:Int) - 1)) (bZ 2 (jM s7) (cJ s7)) ⟨p.length,_,rfl,by omega,Vi.symm,rfl⟩ ?_;rintro i st ⟨e,y,rfl,he,hy,rfl⟩;refine br ?_ ?_<;>intro hL
 ·have hL:0<=(e:Int) - 1:=sU hL;obtain ⟨n,rfl⟩:∃ n,e=n + 1:=⟨e - 1,by omega⟩;have zM:((n + 1:Nat):Int) - 1=(n:Nat):=by omega
  obtain ⟨s,AN⟩:∃ s,p[n]? = some s:=⟨_,gE (by omega)⟩;obtain ⟨q,b2,hq,Ei,aZ,_⟩:=ou n s AN;have har:=rU n q y hq;have hny:gx F q y=alnV F (l.drop n) (.mk xk xn xs xl):=by rw [drop_cons hq,alnV,hy]
  have Xi:(dInts (G6 l))[n]? = some [.v (.int .i64 ((q.i:Nat):Int))]:=aR (by rw [List.getElem?_map,hq];rfl);have Xj:(dInts (G7 l))[n]? = some [.v (.int .i64 ((q.k:Nat):Int))]:=aR (by rw [List.getElem?_map,hq];rfl);have pk:IntKind.i64.wrap (((n + 1:Nat):Int) - 1 - 1)=(n:Int) - 1:=by rw [zM];exact aeK n (by omega)
  generalize gx F q y=Y at har hny;subst Ei;obtain ⟨qi,qd,qk,qs⟩:=q;obtain ⟨sk,sn,ss⟩:=qs;obtain ⟨Yk,Yn,Ys,Yl⟩:=Y;obtain ⟨yk,yn,ys,yl⟩:=y;simp only at AN Xi Xj har;refine dS ?_;refine ⟨_,⟨by omega,by rw [zM];exact Xi⟩,?_⟩;refine ⟨_,⟨by omega,by rw [zM];exact Xj⟩,?_⟩;refine ⟨_,⟨by omega,by rw [zM];exact eu AN⟩,?_⟩;refine cD abt har ?_;exact ⟨Sk PC ND (aQ ND) K (bY ND) ot p l (.mk Yk Yn Ys Yl) ((n:Int) - 1),(bZ 2 (jM pk) (cJ pk)),n,by omega,n,_,rfl,by omega,hny,rfl⟩
 ·have hL:¬ 0<=(e:Int) - 1:=sU hL;have he0:e=0:=by omega
  subst he0;rw [List.drop_zero] at hy;rw [<- hy];obtain ⟨yk,yn,ys,yl⟩:=y;exact ⟨.tup [.agg (bg (.mk yk yn ys yl)),.v (.bool true)],ax,rfl⟩
def sumP (sz:List Nat):List Ed->Nat
 | []=>0
 | e :: r=>dq sz e + sumP sz r
theorem Hb {sz:List Nat}:∀ {es:List Ed} {i n:Nat},n<=4097->sumX sz (-1) es i n < 4097->sumX sz (-1) es i n=n + sumP sz es
 | [],i,n,_,_=>rfl
 | e :: r,i,n,hn,h=>by
  rw [sumX,aj (by omega)] at h ⊢;have h1:=ko (sz:=sz) (c:=-1) (es:=r) (i:=i + 1) (iM (n + dq sz e));have h2:cg (n + dq sz e)=n + dq sz e∨cg (n + dq sz e)=4097:=by unfold cg;omega
  rw [Hb (iM _) h,sumP];omega
theorem uO {sz:List Nat} {c:Int}:∀ {es:List Ed} {i n j:Nat} {x:Ed},n<=4097->sumX sz c es i n < 4097->es[j]? = some x->((i + j:Nat):Int)≠c->dq sz x < 4097
 | e :: r,i,n,0,x,hn,h,hx,hc=>by grind [sumX,ko,iM,dq,cg]
 | e :: r,i,n,j + 1,x,hn,h,hx,hc=>by
  rw [sumX] at h;refine uO (j:=j) ?_ h (sU hx) (by rw [show i + 1 + j=i + (j + 1) by omega];exact hc);split
  ·exact hn
  ·exact iM _
theorem Hc {sz:List Nat} {F:Ed->Val}:∀ {es:List Ed},(∀ e∈es,(F e).wt<=64 * dq sz e)->dL (es.map F)<=64 * sumP sz es
 | [],_=>by simp [dL]
 | e :: r,h=>by
  have h1:=h e List.mem_cons_self;have h2:=Hc (es:=r) fun x hx=>h x (gJ _ hx);rw [List.map_cons,dL,sumP];omega
theorem wN (k n:Int):(dr k n).wt=64:=rfl
theorem wO {ND:List Nd} {D:List Nat} (hO:gB ND D) {L:Nat} (aZ:∀ n∈ND,cf L ND.length n):∀ (f i:Nat),D.getD i 0<=f->0 < D.getD i 0->(og ND D).getD i 0 < 4097->(bu ND D i).wt<=64 * (og ND D).getD i 0
 | 0,i,h,h0,_=>by omega
 | f + 1,i,h,h0,hs=>by
  have hi:=JZ hO h0;have hn:ND[i]? = some ND[i]:=gE hi;have hN:=aZ _ (mG hn);generalize ND[i]=n at hn hN;have bW:=LZ hO hn h0;rw [fstV_eq hO hn h0];rw [bW] at hs ⊢;have ee:=pX (og ND D) D n
  have N2:∀ {e:Ed},0 < cz D e->cz D e < D.getD i 0->dq (og ND D) e < 4097->e.bare=false->(bu ND D e.to.toNat).wt<=64 * dq (og ND D) e:=fun {e} h2 h3 h4 hb=>by
   have hp:dq (og ND D) e=(og ND D).getD e.to.toNat 0:=by unfold dq cz;rw [hb];all_goals rfl
   rw [hp] at h4 ⊢;unfold cz at h2 h3;exact wO hO aZ f _ (by omega) h2 h4
  split
  ·rw [wN];omega
  ·split
   ·rename_i h7;unfold sizeF at hs ⊢;rw [ap h7] at hs ⊢;have fG:=Hb (by omega) hs
    have hw:dL (n.ai.map fun e=>bu ND D e.to.toNat)<=64 * sumP (og ND D) n.ai:=Hc fun e he=>by
     obtain ⟨h2,h3⟩:=hO.Zy hn h0 h7 e he;obtain ⟨j,hj,rfl⟩:=List.getElem_of_mem he;refine N2 h2 h3 (uO (n:=1) (by omega) hs (gE hj) (by omega)) ?_
     cases hb:n.ai[j].bare with
     | false=>rfl
     | true=>have:=hN.bare _ he hb;omega
    rw [Val.wt,fG];show 64 + 0 + _<=_;omega
   ·split
    ·rename_i h7 h8;obtain ⟨c,e,hc,he,hp⟩:=hO.U5 hn h0 h8;unfold sizeF at hs ⊢;rw [aj h7,ap h8,hc] at hs ⊢;simp only [he] at hs ⊢;simp only [tagV,he]
     cases hb:e.bare with
     | true=>
      rw [Val.wt];show 64 + 0 + 0<=_;unfold cg;omega
     | false=>
      obtain ⟨h2,h3⟩:=hp hb;have aq:dq (og ND D) e < 4097:=by unfold cg at hs;omega
      have:=N2 h2 h3 aq hb;rw [Val.wt];show 64 + 0 + ((bu ND D e.to.toNat).wt + 0)<=_;unfold cg at hs ⊢;omega
    ·rw [wN];omega
theorem zx {m:Nat}:∀ {l:List Val},(∀ v∈l,v.wt<=m)->dL l<=l.length * m
 | [],_=>by simp [dL]
 | v :: r,h=>by
  have h1:=h v List.mem_cons_self;have h2:=zx (l:=r) fun x hx=>h x (gJ _ hx);rw [dL,List.length_cons,Nat.add_mul,Nat.one_mul];omega
theorem He {u:Val}:∀ {l:List Val} {c:Nat} {m:Nat},(∀ (j:Nat) v,j≠c->l[j]? = some v->v.wt<=m)->dL (l.set c u)<=l.length * m + u.wt
 | [],_,_,_=>by simp [dL]
 | v :: r,0,m,h=>by
  have h2:=zx (l:=r) (m:=m) fun x hx=>by
   obtain ⟨j,hj,rfl⟩:=List.getElem_of_mem hx;exact h (j + 1) _ (by omega) (by simp [hj])
  rw [List.set_cons_zero,dL,List.length_cons,Nat.add_mul,Nat.one_mul];omega
 | v :: r,c + 1,m,h=>by
  have h1:=h 0 v (by omega) rfl;have h2:=He (u:=u) (l:=r) (c:=c) (m:=m) fun j x hj hx=>h (j + 1) x (by omega) (sU hx);rw [List.set_cons_succ,dL,List.length_cons,Nat.add_mul,Nat.one_mul];omega
theorem zA {ND:List Nd} {L:Nat} (aZ:∀ n∈ND,cf L ND.length n):∀ (f i:Nat),(ek ND).getD i 0≠0->(ek ND).getD i 0<=f->(ek ND).getD i 0 < 4097->(bl ND (aQ ND) (fx ND) f i).wt<=(ek ND).getD i 0 * 33554432
 | 0,i,h0,h1,_=>by omega
 | f + 1,i,h0,h1,h2=>by
  obtain ⟨n,hn,hKi,hv⟩:=DP h0;have hO:=il ND;have hN:=aZ n (mG hn);have qc:=zt hn hKi;have GZ:=sS hN qc
  have iS:∀ s j,1<=s->(ek ND).getD i 0=othE (ek ND) (s,some j)->(bl ND (aQ ND) (fx ND) f j).wt + 33554432<=(ek ND).getD i 0 * 33554432:=fun s j hs h=>by
   have xf:(ek ND).getD j 0≠0:=fun hj=>h0 (by rw [h];simp only [othE];rw [ap hj]);have aq:(ek ND).getD j 0 < (ek ND).getD i 0:=by grind [othE,cg]
   have:=zA aZ f j xf (by omega) (by omega);omega
  have M1:∀ {e:Ed},fM (aQ ND) e=true->dq (bY ND) e < 4097->e.bare=false->(bu ND (aQ ND) e.to.toNat).wt<=262208:=fun {e} ht hp hb=>by
   have xA:dq (bY ND) e=(bY ND).getD e.to.toNat 0:=by unfold dq cz;rw [hb];all_goals rfl
   rw [xA] at hp;have h0:=nR ht hb;unfold cz at h0;have:(bu ND (aQ ND) e.to.toNat).wt<=64 * (bY ND).getD e.to.toNat 0:=wO hO aZ _ _ (aV _) h0 hp;omega
  have hcut:∀ {e:Ed},cg (1 + dq (bY ND) e) < 4097->dq (bY ND) e < 4097:=fun {e} h=>by unfold cg at h;omega
  have ZC:∀ {c:Nat} {e:Ed},n.ai[c]? = some e->fM (aQ ND) e=true->dq (bY ND) e < 4097->(tagV (bu ND (aQ ND)) n.ai c).wt<=33554432:=fun {c e} he ht hp=>by
   simp only [tagV,he]
   cases hb:e.bare with
   | true=>rw [Val.wt];show 64 + 0 + 0<=_;omega
   | false=>
    have:=M1 ht hp hb;rw [Val.wt];show 64 + 0 + ((bu ND (aQ ND) e.to.toNat).wt + 0)<=_;omega
  have tA:1 * 33554432<=(ek ND).getD i 0 * 33554432:=Nat.mul_le_mul_right _ (by omega);have hE:∀ s,othE (ek ND) (s,none)=s:=fun _=>rfl;rw [show bl ND (aQ ND) (fx ND) (f + 1) i=uL (bu ND (aQ ND)) (bl ND (aQ ND) (fx ND) f) (aQ ND) (fx ND) n by rw [bl,hn]];have OO:=hv;unfold uL;unfold iu at hv;split
  ·rw [wN];omega
  ·split
   ·show 64 + 1 + 0<=_;omega
   ·split
    ·rename_i NX;obtain ⟨x,hx,ra,_⟩:=hN.one NX;rw [hx] at hv ⊢;rw [ap NX] at hv;simp only [List.getElem?_cons_zero] at hv ⊢
     have HI:fM (aQ ND) x=true:=by
      cases h:fM (aQ ND) x with
      | true=>rfl
      | false=>rcases NX with h5 | h5<;>simp [eW,manyN,h,h5,hx] at qc
     have hv:(ek ND).getD i 0=cg (1 + dq (bY ND) x):=hv;have:=M1 HI (hcut (by omega)) ra;rw [Val.wt];show 64 + 0 + ((bu ND (aQ ND) x.to.toNat).wt + 0)<=_;omega
    ·split
     ·rename_i NX h7;rw [aj NX,ap h7] at hv;obtain ⟨c,x,hc,hx,ra⟩:=GZ.c7 h7;rw [hc] at hv ⊢;simp only [hx] at hv ⊢
      have hS:sumX (bY ND) c n.ai 0 1 < 4097:=by
       have Oe:(ek ND).getD i 0=othE (ek ND) (sumX (bY ND) c n.ai 0 1,some x.to.toNat):=hv;simp only [othE] at Oe;split at Oe
       ·exact (h0 Oe).elim
       ·have:=pV (sz:=bY ND) (c:=c) (es:=n.ai) (i:=0) (n:=1) (by omega);unfold cg at Oe;omega
      have hr:=iS _ _ (ko (by omega)) hv;have hDi:0 < (aQ ND).getD i 0:=by rw [hO.get i n hn];exact zn hN qc
      have I4:=(hN.many (.inl h7)).1
      have hw:=He (u:=bl ND (aQ ND) (fx ND) f x.to.toNat) (l:=n.ai.map fun e=>bu ND (aQ ND) e.to.toNat) (c:=c) (m:=262208) fun j v hj hv=>by
       rw [List.getElem?_map] at hv
       cases he:n.ai[j]? with
       | none=>rw [he] at hv;cases hv
       | some e=>
        rw [he] at hv;cases hv;have SR:=mG he
        have hb:e.bare=false:=by
         cases hb:e.bare with
         | false=>rfl
         | true=>have:=hN.bare _ SR hb;omega
        refine M1 ?_ (uO (n:=1) (by omega) hS he (by omega)) hb;have:=(hO.Zy hn hDi h7 e SR).1
        grind [fM]
      rw [List.length_map] at hw;have hm:n.ai.length * 262208<=64 * 262208:=Nat.mul_le_mul_right _ I4;rw [Val.wt];show 64 + 0 + _<=_;omega
     ·split
      ·rename_i NX h7 h8;rw [aj NX,aj h7,ap h8] at hv
       cases ht:lN (aQ ND) n.ai with
       | some c=>
        rw [ht] at hv;obtain ⟨x,hx,HI⟩:=pU ht
        grind
       | none=>
        rw [ht] at hv;obtain ⟨c,x,hc,hx,ra⟩:=GZ.c8 h8 ht;rw [hc] at hv;simp only [hx] at hv;have hr:=iS _ _ (aV 1) hv;simp only [hc,hx];rw [Val.wt];show 64 + 0 + ((bl ND (aQ ND) (fx ND) f x.to.toNat).wt + 0)<=_;omega
      ·rw [wN];omega
theorem Hf:∀ (a b:List Val),dL (a ++ b)=dL a + dL b
 | [],b=>by simp [dL]
 | v :: r,b=>by rw [List.cons_append,dL,dL,Hf r,Nat.add_assoc]
theorem Hg (u:Val):∀ n,dL (List.replicate n u)=n * u.wt
 | 0=>by simp [dL]
 | n + 1=>by rw [List.replicate_succ,dL,Hg u n,Nat.add_mul,Nat.one_mul,Nat.add_comm]
theorem B2 {sz:List Nat} {F:Nat->Val} {k:Nat}:∀ {es:List Ed} {i:Nat},k < i->(∀ (j:Nat) e,es[j]? = some e->(F e.to.toNat).wt<=64 * cz sz e)->dL (es.map fun e=>F e.to.toNat)<=64 * sumE sz k es i
 | [],i,_,_=>by simp [dL]
 | e :: r,i,hk,h=>by
  have h1:=h 0 e rfl;have h2:=B2 (sz:=sz) (F:=F) (k:=k) (es:=r) (i:=i + 1) (by omega) fun j e he=>h (j + 1) e (sU he)
  grind [dL,sumE]
theorem B3 {sz:List Nat} {F:Nat->Val} {v:Val} {k:Nat}:∀ {es:List Ed} {i:Nat},i<=k->(∀ (j:Nat) e,es[j]? = some e->i + j≠k->(F e.to.toNat).wt<=64 * cz sz e)->dL ((es.map fun e=>F e.to.toNat).set (k - i) v)<=v.wt + 64 * sumE sz k es i
 | [],i,_,_=>by simp [dL]
 | e :: r,i,hk,h=>by
  by_cases hik:i=k
  ·subst hik;have h2:=B2 (sz:=sz) (F:=F) (k:=i) (es:=r) (i:=i + 1) (by omega) fun j e he=>h (j + 1) e (sU he) (by omega)
   grind [dL,sumE]
  ·have h1:=h 0 e rfl (by omega);have h2:=B3 (sz:=sz) (F:=F) (v:=v) (k:=k) (es:=r) (i:=i + 1) (by omega) fun j e he hj=>h (j + 1) e (sU he) (by omega);rw [List.map_cons,show k - i=(k - (i + 1)) + 1 by omega,List.set_cons_succ,dL,sumE,aj hik,Nat.mul_add];omega
theorem Hh {sz:List Nat} {k:Nat}:∀ {es:List Ed} {i j:Nat} {e:Ed},es[j]? = some e->i + j≠k->cz sz e<=sumE sz k es i
 | [],i,j,e,h,_=>by simp at h
 | x :: r,i,0,e,h,hk=>by grind [sumE]
 | x :: r,i,j + 1,e,h,hk=>by
  have:=Hh (sz:=sz) (k:=k) (es:=r) (i:=i + 1) (j:=j) (e:=e) (sU h) (by omega);rw [sumE];omega
theorem Sn {ND:List Nd} {L:Nat} (aZ:∀ n∈ND,cf L ND.length n) {e:Ed} (h:cz (aQ ND) e≠0) (h2:cz (bY ND) e < 4097):(bu ND (aQ ND) e.to.toNat).wt<=64 * cz (bY ND) e:=
 wO (il ND) aZ _ _ (aV _) (Nat.pos_of_ne_zero h) h2
theorem ZH {ND:List Nd} {L:Nat} (aZ:∀ n∈ND,cf L ND.length n) {q:Pl} (hq:ql ND q) (lu:lX (aQ ND) q=true) (hD:∃ x,q.d.ai[q.k]? = some x/\cz (aQ ND) x≠0) (hx:BX (bY ND) q < 4097) (v:Val) :
  (gx (bu ND (aQ ND)) q v).wt<=v.wt + 64 * BX (bY ND) q:=by
 obtain ⟨k1,k5,k2,k3,k4,hk⟩:=kp hq;have e0:ay.size=0:=rfl;obtain ⟨y,hy,hyD⟩:=hD;unfold lX at lu;simp only [bc,decide_eq_true_eq] at lu;unfold gx;by_cases c2:q.s.k=2
 ·rw [ap c2,Val.wt,Hf,Hg,e0];obtain ⟨c5,h0,h1⟩:=k2 c2;obtain ⟨_,_,ht⟩:=uN aZ hq hy (.inl c5);have hE:BX (bY ND) q=1 + q.s.n.toNat * cz (bY ND) y:=by unfold BX cz;rw [ap c2,ht]
  rw [hE] at hx ⊢;rw [ht];have hv:dL [v]=v.wt:=by simp [dL]
  rw [hv]
  have hm:q.s.n.toNat * (bu ND (aQ ND) y.to.toNat).wt<=64 * (q.s.n.toNat * cz (bY ND) y):=by
   rcases Nat.eq_zero_or_pos q.s.n.toNat with h | h
   ·rw [h];simp
   ·have fb:cz (bY ND) y<=q.s.n.toNat * cz (bY ND) y:=Nat.le_mul_of_pos_left _ h;have:=Sn aZ hyD (by omega);rw [Nat.mul_left_comm];exact Nat.mul_le_mul_left _ this
  rw [Nat.mul_add];omega
 rw [aj c2];by_cases c1:q.s.k=1
 ·rw [ap c1,Val.wt,e0];have hE:BX (bY ND) q=1 + sumE (bY ND) q.k q.d.ai 0:=by unfold BX;rw [aj c2,ap c1]
  rw [hE] at hx ⊢;have Ab:=lu.2;simp [c1] at Ab;have Ab:=mM.1 Ab
  have:=B3 (sz:=bY ND) (F:=bu ND (aQ ND)) (v:=v) (k:=q.k) (es:=q.d.ai) (i:=0) (Nat.zero_le _) fun j e he hj=>Sn aZ (Ab j e he hj) (by
   have:=Hh (sz:=bY ND) he hj
   omega)
  grind
 ·rw [aj c1,Val.wt,e0];have hv:dL [v]=v.wt:=by simp [dL]
  rw [hv];have:BX (bY ND) q=1:=by unfold BX;rw [aj c2,aj c1]
  omega
theorem Sp {ND:List Nd} {L:Nat} (aZ:∀ n∈ND,cf L ND.length n) (v:Val):∀ (l:List Pl),(∀ q∈l,ql ND q/\lX (aQ ND) q=true/\∃ x,q.d.ai[q.k]? = some x/\cz (aQ ND) x≠0)->totF (bY ND) l < 4097->(alnV (bu ND (aQ ND)) l v).wt<=v.wt + 64 * totF (bY ND) l
 | [],_,_=>by rw [alnV];omega
 | q :: l,h,ht=>by
  rw [totF] at ht ⊢;have ih:=Sp aZ v l (fun q hq=>h q (by simp [hq])) (by omega);obtain ⟨h1,h2,h3⟩:=h q (by simp);have:=ZH aZ h1 h2 h3 (by omega) (alnV (bu ND (aQ ND)) l v);rw [alnV,Nat.mul_add];omega
theorem Vm {ND:List Nd} {L:Nat} (aZ:∀ n∈ND,cf L ND.length n) {f:Nat->Nat->Bool} {m:Nat} {p:List Stp} {i a:Nat} {v u:Val} (h:o9 ND (bY ND) (aQ ND) (walkV ND f m p i a) (stpsV ND p i) v=some u):u.wt<=v.wt + 262208:=by
 cases hw:walkV ND f m p i a with
 | none=>rw [hw] at h;cases h
 | some r=>
  obtain ⟨j,b⟩:=r;rw [hw] at h;unfold o9 at h;simp only at h;split at h
  ·rename_i hc;cases h;obtain ⟨Mp,oe,Hv⟩:=hc;have hda:=(pY aZ (il ND) p i a hw oe (by have:=wM aZ (il ND) v _ Mp;simpa using this)).2;obtain ⟨tf,ou⟩:=o8 p i a hw;have:=Sp aZ v (stpsV ND p i) (fun q hq=>⟨?_,List.all_eq_true.1 oe q hq,hda q hq⟩) (by omega)
   ·omega
   ·obtain ⟨e,he,rfl⟩:=List.getElem_of_mem hq;obtain ⟨q',_,jX,_,hok',_⟩:=ou e p[e] (gE (by omega))
    grind
  ·cases h
section
variable {S:Sch} {ND:List Nd} {PC:List DV} (hP:dX S ND PC) (p:List Stp) (hp:p.length<=1099511627776) (hs:∀ s∈p,s.s.size<=4611686018427387904) (rt:Nat) (mQ:dw S=rt) (dK:rt < ND.length)
include hP hp hs mQ dK
end
def pairF (ND:List Nd) (o:Option (Nat × Nat)) (l:List Pl):Option (Val × Val):=match o with
 | none=>none
 | some (j,b)=>if JY (bY ND) j=true/\JY (ek ND) j=true then (match o9 ND (bY ND) (aQ ND) (some (j,b)) l (bu ND (aQ ND) j),o9 ND (bY ND) (aQ ND) (some (j,b)) l (Al ND (aQ ND) (fx ND) j) with
  | some a,some c=>some (a,c)
  | _,_=>none) else none
def Sq:Option (Val × Val)->DV
 | some (a,c)=>.tup [.agg (bg a),.agg (bg c),.v (.bool true)]
 | none=>.tup [.agg (bg zeroV),.agg (bg zeroV),.v (.bool false)]
theorem B4 {ND:List Nd} {L:Nat} (aZ:∀ n∈ND,cf L ND.length n) {j:Nat} (h:JY (bY ND) j=true):(bY ND).getD j 0≠0/\(bu ND (aQ ND) j).wt<=262208:=by
 obtain ⟨j',hj,h1,h2⟩:=L3.1 h;obtain rfl:j=j':=by omega
 have h0:=(wI (il ND)).1.1 (Nat.pos_of_ne_zero h1);have:(bu ND (aQ ND) j).wt<=64 * (bY ND).getD j 0:=wO (il ND) aZ _ _ (aV _) h0 h2;exact ⟨h1,by omega⟩
theorem B5 {ND:List Nd} {L:Nat} (aZ:∀ n∈ND,cf L ND.length n) {j:Nat} (h:JY (ek ND) j=true):(ek ND).getD j 0≠0/\(ek ND).getD j 0 < 4097/\(Al ND (aQ ND) (fx ND) j).wt<=137472507904:=by
 obtain ⟨j',hj,h1,h2⟩:=L3.1 h;obtain rfl:j=j':=by omega
 have:(Al ND (aQ ND) (fx ND) j).wt<=(ek ND).getD j 0 * 33554432:=zA aZ 4096 j h1 (by omega) h2;exact ⟨h1,h2,by omega⟩
set_option maxHeartbeats 4000000 in
theorem J2 {S:Sch} {ND:List Nd} {PC:List DV} (hP:dX S ND PC) (HH:∀ n∈ND,n.ag=2 -> -9223372036854775808<=n.lo/\n.hi<=9223372036854775807) (p:List Stp) (hp:p.length<=1099511627776) (hs:∀ s∈p,s.s.size<=4611686018427387904) (rt:Nat) (mQ:dw S=rt) (dK:rt < ND.length) :
  EvP prog 34 [.pt PC 0,.sl 3 (aF p) none] (Sq (pairF ND (walkV ND (aH S) S.ae.length p rt (dC (aH S) S.ae.length)) (stpsV ND p rt))):=by
 have hm:=JX PC ND hP;have hw:=nN hP p hp hs rt mQ dK;have fI:=hP.nl;have lu:=fun x hx=>Ha hP (ek ND) (fx ND) p hp hs rt mQ dK x hx;generalize hW:walkV ND (aH S) S.ae.length p rt (dC (aH S) S.ae.length)=W at hw lu ⊢
 cases W with
 | none=>
  have hw:EvP prog 87 [.pt PC 0,.sl 3 (aF p) none] (.tup [.v (.int .i64 (-1)),.v (.int .i64 (-1)),.v (.bool false)]):=hw;refine eG 74 [.cell 4 34,.cell 5 34,.tmp 6] func34 rfl ntmps34 rfl fun _ _ _ _=>?_;refine cP TF hm ?_;refine cP xG hw ?_;exact ⟨.tup [.agg (bg zeroV),.agg (bg zeroV),.v (.bool false)],ax,rfl⟩
 | some jb=>
 obtain ⟨j,b⟩:=jb;have hw:EvP prog 87 [.pt PC 0,.sl 3 (aF p) none] (.tup [.v (.int .i64 (j:Nat)),.v (.int .i64 (b:Nat)),.v (.bool true)]):=hw;have Fp:=zs (bY ND) j (by rw [DK];exact fI);have vz:=zs (ek ND) j (by rw [U9];exact fI);have h1:=@B4 ND _ hP.ok j;have h2:=@B5 ND _ hP.ok j;have ee:=BV hP (bY ND) (ek ND) (fx ND) (j:=j);have vP:=NU hP HH (j:=j)
 have hF:pairF ND (some (j,b)) (stpsV ND p rt)=if JY (bY ND) j=true/\JY (ek ND) j=true then (match o9 ND (bY ND) (aQ ND) (some (j,b)) (stpsV ND p rt) (bu ND (aQ ND) j),o9 ND (bY ND) (aQ ND) (some (j,b)) (stpsV ND p rt) (Al ND (aQ ND) (fx ND) j) with
  | some a,some c=>some (a,c)
  | _,_=>none) else none:=rfl
 rw [hF];clear hF hW;generalize JY (bY ND) j=o1 at Fp h1 ⊢;generalize JY (ek ND) j=o2 at vz h2 ⊢
 cases o1 with
 | false=>
  rw [aj (by simp)];refine eG 74 [.cell 4 34,.cell 5 34,.tmp 6] func34 rfl ntmps34 rfl fun _ _ _ _=>?_;refine cP TF hm ?_;refine cP xG hw ?_;refine cP Pd Fp ?_;exact ⟨.tup [.agg (bg zeroV),.agg (bg zeroV),.v (.bool false)],ax,rfl⟩
 | true=>
 cases o2 with
 | false=>
  rw [aj (by simp)];refine eG 74 [.cell 4 34,.cell 5 34,.tmp 6] func34 rfl ntmps34 rfl fun _ _ _ _=>?_;refine cP TF hm ?_;refine cP xG hw ?_;refine cP Pd Fp ?_;refine cP Pd vz ?_;exact ⟨.tup [.agg (bg zeroV),.agg (bg zeroV),.v (.bool false)],ax,rfl⟩
 | true=>
 rw [ap ⟨rfl,rfl⟩];obtain ⟨h3,h4⟩:=h1 rfl;obtain ⟨h5,h6,h7⟩:=h2 rfl;have ee:=ee h3;have vP:=vP h5 h6;have ha1:=lu _ (Nat.le_trans h4 (by omega));have As:=lu _ (Nat.le_trans h7 (by omega));clear lu h1 h2 h3 h4 h5 h6 h7;generalize o9 ND (bY ND) (aQ ND) (some (j,b)) (stpsV ND p rt) (bu ND (aQ ND) j)=R1 at ha1 ⊢;generalize o9 ND (bY ND) (aQ ND) (some (j,b)) (stpsV ND p rt) (Al ND (aQ ND) (fx ND) j)=R2 at As ⊢;generalize bu ND (aQ ND) j=X1 at ee ha1;generalize Al ND (aQ ND) (fx ND) j=X2 at vP As;obtain ⟨x1k,x1n,x1s,x1l⟩:=X1;obtain ⟨x2k,x2n,x2s,x2l⟩:=X2;have hQ:Sq (match (generalizing:=false) R1,R2 with | some a,some c=>some (a,c) | _,_=>none)=if (R1.isSome && R2.isSome)=true then .tup [.agg (bg (R1.getD zeroV)),.agg (bg (R2.getD zeroV)),.v (.bool true)] else .tup [.agg (bg zeroV),.agg (bg zeroV),.v (.bool false)]:=by cases R1<;>cases R2<;>rfl
 rw [hQ];rw [Vl] at ha1 As;clear hQ;generalize R1.isSome=b1 at ha1 ⊢;generalize R2.isSome=b2 at As ⊢;generalize R1.getD zeroV=a at ha1 ⊢;generalize R2.getD zeroV=c at As ⊢;obtain ⟨ak,an,at2,al⟩:=a;obtain ⟨ck,cn,cs,cl⟩:=c;refine eG 74 [.cell 4 34,.cell 5 34,.tmp 6] func34 rfl ntmps34 rfl fun _ _ _ _=>?_;refine cP TF hm ?_;refine cP xG hw ?_;refine cP Pd Fp ?_;refine cP Pd vz ?_;refine cP zY ee ?_;refine cP aa8 ha1 ?_;refine cP X9 vP ?_;refine cP aa8 As ?_;refine br ?_ ?_<;>intro g
 ·rw [aj (fun h=>by
   rw [bc] at h;rw [h.1,h.2] at g
   cases g)]
  exact ⟨.tup [.agg (bg zeroV),.agg (bg zeroV),.v (.bool false)],ax,rfl⟩
 ·rw [ap (by cases b1<;>cases b2<;>first | rfl | cases g)];refine ni [0,1] (fun _=>false) mo (by decide +kernel) ?_;exact ⟨.tup [.agg (bg (.mk ak an at2 al)),.agg (bg (.mk ck cn cs cl)),.v (.bool true)],ax,rfl⟩
theorem kD {ND:List Nd} {j:Nat} {d:Nd} (h:ND[j]? = some d):fQ ND (j:Nat)=some d:=by grind [fQ]
theorem jU {ND:List Nd} {v:Val} {d:Nd} {i:Int} (h:fQ ND i=some d) (h5:d.ag < 5) (hl:lK d v=true):fitV ND v i=true:=by
 obtain ⟨k,n,s,ks⟩:=v
 grind [fitV]
theorem zB {ND:List Nd} {v:Val} {d:Nd} {i:Int} (h:fQ ND i=some d) (h5:5<=d.ag) (hb:gA d v=true) (hf:fitVs ND v.ks (kidsL d v)=true):fitV ND v i=true:=by
 obtain ⟨k,n,s,ks⟩:=v;rw [fitV,h];simp only;rw [aj (by omega),hb];exact hf
theorem pZ {ND:List Nd} {F:Nat->Val}:∀ {es:List Ed},(∀ e∈es,fitV ND (F e.to.toNat) e.to=true)->fitVs ND (es.map fun e=>F e.to.toNat) (es.map Ed.to)=true
 | [],_=>by simp [fitVs]
 | e :: r,h=>by
  rw [List.map_cons,List.map_cons,fitVs,h e (by simp),pZ fun x hx=>h x (by simp [hx])];rfl
theorem wP {ND:List Nd} {n:Nd} {i:Int} (h:fQ ND i=some n) (NX:n.ag=5∨n.ag=6) {ks:List Val} {x:Ed} (hx:n.ai=[x]) (hm:(ks.length:Int)<=if n.ag=6 then 1 else n.most) (hf:∀ v∈ks,fitV ND v x.to=true):fitV ND (.mk n.ag 0 ay ks) i=true:=by
 have ht:to0 n=x.to:=by unfold to0;rw [hx];all_goals rfl
 refine zB h (by omega) ?_ ?_
 ·grind [gA,fL,Val.k,Val.n,Val.s,Val.ks]
 ·unfold kidsL;rw [ap NX,ht];simp only [Val.ks];clear hm
  induction ks with
  | nil=>simp [fitVs]
  | cons v r ih=>grind [fitVs]
theorem DX {ND:List Nd} {n:Nd} {i:Int} (h:fQ ND i=some n) (h7:n.ag=7) {ks:List Val} (hl:ks.length=n.ai.length) (hf:fitVs ND ks (n.ai.map Ed.to)=true):fitV ND (.mk 7 0 ay ks) i=true:=by grind [zB,gA,fL,Val.k,Val.n,Val.s,Val.ks,kidsL]
theorem DY {ND:List Nd} {n:Nd} {i:Int} (h:fQ ND i=some n) (h8:n.ag=8) {ks:List Val} {c:Nat} {x:Ed} (hx:n.ai[c]? = some x) (hk:(x.bare=true/\ks=[])∨(x.bare=false/\∃ v,ks=[v]/\fitV ND v x.to=true)):fitV ND (.mk 8 c ay ks) i=true:=by
 have hc:=(gS hx).1
 have hT:vM n (.mk 8 c ay ks)=some x:=by
  show (if (8:Int)=8/\(0:Int)<=(c:Nat)/\((c:Nat):Int) < n.ai.length then n.ai[((c:Nat):Int).toNat]? else none)=some x
  grind
 have hL:kidsL n (.mk 8 c ay ks)=if x.bare=true then [] else [x.to]:=by grind [kidsL]
 grind [zB,gA,fL,Val.k,Val.n,Val.s,Val.ks,fitVs]
theorem L5 {ND:List Nd} {n:Nd} {i:Int} (h:fQ ND i=some n) (h8:n.ag=8) {F:Nat->Val} {c:Nat} {x:Ed} (hx:n.ai[c]? = some x) (hk:x.bare=false->fitV ND (F x.to.toNat) x.to=true):fitV ND (tagV F n.ai c) i=true:=by grind [tagV,DY]
section
variable {L:Nat} {ND:List Nd} (aZ:∀ n∈ND,cf L ND.length n)
include aZ
theorem DZ {D:List Nat} (hO:gB ND D):∀ (f i:Nat),D.getD i 0<=f->0 < D.getD i 0->fitV ND (bu ND D i) (i:Nat)=true
 | 0,i,h1,h0=>by omega
 | f + 1,i,h1,h0=>by
  have hi:=JZ hO h0;obtain ⟨n,hn⟩:∃ n,ND[i]? = some n:=⟨_,gE hi⟩;have hN:=aZ n (mG hn);have hA:=kD hn
  have ih:∀ e∈n.ai,0 < cz D e->cz D e < D.getD i 0->e.bare=false->fitV ND (bu ND D e.to.toNat) e.to=true:=fun e he h2 h3 hb=>by
   obtain ⟨k,hk,gl⟩:=(hN.fB e he).to1 hb;unfold cz at h2 h3;rw [hk,eH] at h2 h3 ⊢;exact DZ hO f k (by omega) h2
  rw [fstV_eq hO hn h0];have kh:=hN.k1;have Gi:=hN.k8;by_cases c2:n.ag=2
  ·rw [ap c2];refine jU hA (by omega) ?_;have:=hN.adG c2
   grind [lK,dr,Val.k,Val.n,Val.s,Val.ks]
  rw [aj c2];by_cases c7:n.ag=7
  ·rw [ap c7];refine DX hA c7 (by simp) (pZ fun e he=>?_);obtain ⟨h2,h3⟩:=hO.Zy hn h0 c7 e he;refine ih e he h2 h3 ?_
   cases hb:e.bare with
   | false=>rfl
   | true=>have:=hN.bare e he hb;omega
  rw [aj c7];by_cases c8:n.ag=8
  ·rw [ap c8];obtain ⟨c,e,hc,he,hp⟩:=hO.U5 hn h0 c8
   grind [L5]
  rw [aj c8];rcases (show n.ag=1∨n.ag=3∨n.ag=4∨(n.ag=5∨n.ag=6) by omega) with c | c | c | c
  ·grind [jU,lK,dr,Val.k,Val.n,Val.s,Val.ks]
  ·refine jU hA (by omega) ?_;have:=(hN.WY c).1;have h0:ay.size=0:=rfl
   grind [lK,dr,Val.k,Val.n,Val.s,Val.ks]
  ·refine jU hA (by omega) ?_;have:=(hN.af c).1;have:0 < n.af.length:=List.length_pos_iff.2 this
   grind [lK,dr,Val.k,Val.n,Val.s,Val.ks]
  ·obtain ⟨x,hx,_⟩:=hN.one c;refine wP hA c hx ?_ fun v hv=>by cases hv
   have:=hN.Lt
   grind
theorem N3 {f i:Nat} (h0:(ek ND).getD i 0≠0) (h4:(ek ND).getD i 0 < 4097):∃ n,ND[i]? = some n/\0 < (aQ ND).getD i 0/\(
  (n.ag=1/\bl ND (aQ ND) (fx ND) (f + 1) i=dr 1 1) ∨
  (n.ag=2/\n.lo < n.hi/\bl ND (aQ ND) (fx ND) (f + 1) i=dr 2 (n.lo + 1)) ∨
  (n.ag=3/\0 < n.most/\bl ND (aQ ND) (fx ND) (f + 1) i = .mk 3 0 ⟨#[97]⟩ []) ∨
  (n.ag=4/\1 < n.af.length/\bl ND (aQ ND) (fx ND) (f + 1) i=dr 4 1) ∨
  ((n.ag=5∨n.ag=6)/\(n.ag=5->0 < n.most)/\∃ x,n.ai=[x]/\x.bare=false/\0 < cz (aQ ND) x/\bl ND (aQ ND) (fx ND) (f + 1) i = .mk n.ag 0 ay [bu ND (aQ ND) x.to.toNat]) ∨
  (n.ag=7/\(∀ e∈n.ai,0 < cz (aQ ND) e)/\∃ c x,n.ai[c]? = some x/\x.bare=false/\(ek ND).getD x.to.toNat 0≠0/\(ek ND).getD x.to.toNat 0 < (ek ND).getD i 0 /\
   bl ND (aQ ND) (fx ND) (f + 1) i = .mk 7 0 ay ((n.ai.map fun e=>bu ND (aQ ND) e.to.toNat).set c (bl ND (aQ ND) (fx ND) f x.to.toNat))) ∨
  (n.ag=8/\((∃ c x,bL (aQ ND) n.ai≠some c/\n.ai[c]? = some x/\fM (aQ ND) x=true/\bl ND (aQ ND) (fx ND) (f + 1) i=tagV (bu ND (aQ ND)) n.ai c) ∨
   ∃ c x,bL (aQ ND) n.ai=some c/\n.ai[c]? = some x/\x.bare=false/\(ek ND).getD x.to.toNat 0≠0/\(ek ND).getD x.to.toNat 0 < (ek ND).getD i 0/\bl ND (aQ ND) (fx ND) (f + 1) i = .mk 8 c ay [bl ND (aQ ND) (fx ND) f x.to.toNat]))):=by
 obtain ⟨n,hn,hKi,hv⟩:=DP h0;have hO:=il ND;have hN:=aZ n (mG hn);have qc:=zt hn hKi;have GZ:=sS hN qc;have u1:=zn hN qc;rw [<- hO.get _ _ hn] at u1
 have iS:∀ s j,1<=s->(ek ND).getD i 0=othE (ek ND) (s,some j)->(ek ND).getD j 0≠0/\(ek ND).getD j 0 < (ek ND).getD i 0:=fun s j hs h=>by
  have xf:(ek ND).getD j 0≠0:=fun hj=>h0 (by rw [h];simp only [othE];rw [ap hj])
  grind [othE,cg]
 have hE:bl ND (aQ ND) (fx ND) (f + 1) i=uL (bu ND (aQ ND)) (bl ND (aQ ND) (fx ND) f) (aQ ND) (fx ND) n:=by rw [bl,hn]
 have kh:=hN.k1;have Gi:=hN.k8;refine ⟨n,hn,u1,?_⟩;rw [hE];clear hE;unfold uL;unfold iu at hv;rcases (show n.ag=1∨n.ag=2∨n.ag=3∨n.ag=4∨(n.ag=5∨n.ag=6)∨n.ag=7∨n.ag=8 by omega) with c | c | c | c | c | c | c
 ·exact .inl ⟨c,by simp [c]⟩
 ·grind [eW]
 ·grind [eW]
 ·simp_all [eW]
 ·refine .inr (.inr (.inr (.inr (.inl ⟨c,fun c5=>?_,?_⟩))))
  ·simp [eW,c5] at qc;exact qc.1
  ·obtain ⟨x,hx,ra,_⟩:=hN.one c
   have HI:fM (aQ ND) x=true:=by
    cases h:fM (aQ ND) x with
    | true=>rfl
    | false=>rcases c with h5 | h5<;>simp [eW,manyN,h,h5,hx] at qc
   grind [nR]
 ·refine .inr (.inr (.inr (.inr (.inr (.inl ⟨c,fun e he=>?_,?_⟩)))))
  ·simp only [eW,c] at qc;simp at qc;have fG:n.ai.all (fM (aQ ND))=true:=by simp_all [manyN]
   have HI:=List.all_eq_true.1 fG e he;refine nR HI ?_
   cases hb:e.bare with
   | false=>rfl
   | true=>have:=hN.bare e he hb;omega
  ·obtain ⟨k,x,hc,hx,hb⟩:=GZ.c7 c
   grind [ko]
 ·refine .inr (.inr (.inr (.inr (.inr (.inr ⟨c,?_⟩)))));rw [aj (by omega),aj (by omega),aj (by omega),aj (by omega),ap c];rw [aj (by omega),aj (by omega),ap c] at hv
  cases ht:lN (aQ ND) n.ai with
  | some k=>
   obtain ⟨x,hx,HI⟩:=pU ht;have h2:=(bV ht).2.1
   grind [sO]
  | none=>
   obtain ⟨k,x,hc,hx,hb⟩:=GZ.c8 c ht
   grind
theorem zC {n:Nd} (hN:cf L ND.length n) {e:Ed} (he:e∈n.ai) (hb:e.bare=false):((e.to.toNat:Nat):Int)=e.to:=by
 obtain ⟨k,hk,_⟩:=(hN.fB e he).to1 hb;rw [hk,eH]
theorem D0:∀ (f i:Nat),(ek ND).getD i 0≠0->(ek ND).getD i 0<=f->(ek ND).getD i 0 < 4097->fitV ND (bl ND (aQ ND) (fx ND) f i) (i:Nat)=true/\bl ND (aQ ND) (fx ND) f i≠bu ND (aQ ND) i
 | 0,i,h0,h1,_=>by omega
 | f + 1,i,h0,h1,h2=>by
  obtain ⟨n,hn,u1,hsh⟩:=N3 aZ (f:=f) h0 h2;have hO:=il ND;have hN:=aZ n (mG hn);have hA:=kD hn
  have lO:∀ e∈n.ai,0 < cz (aQ ND) e->e.bare=false->fitV ND (bu ND (aQ ND) e.to.toNat) e.to=true:=fun e he h2 hb=>by
   have:=DZ aZ hO _ e.to.toNat (aV _) h2
   rwa [zC aZ hN he hb] at this
  have hF:=fstV_eq hO hn u1;rcases hsh with ⟨c,hE⟩ | ⟨c,hl,hE⟩ | ⟨c,hl,hE⟩ | ⟨c,hl,hE⟩ | ⟨c,hl,x,hx,hb,hd,hE⟩ | ⟨c,fG,k,x,hx,hb,h3,h4,hE⟩ | ⟨c,hsh⟩
  ·grind [jU,lK,dr,Val.k,Val.n,Val.s,Val.ks]
  ·grind [jU,lK,dr,Val.k,Val.n,Val.s,Val.ks]
  ·rw [hE,hF,c];refine ⟨jU hA (by omega) ?_,fun h=>?_⟩
   ·have h1:(1:Int)<=n.most:=by omega
    have h0:(⟨#[97]⟩:ByteArray).size=1:=rfl
    grind [lK,Val.k,Val.n,Val.s,Val.ks]
   ·have h:(Val.mk 3 0 ⟨#[97]⟩ []:Val)=dr 3 0:=sU h;have:=congrArg (fun v:Val=>v.s.size) h;simp [dr,Val.s] at this;exact absurd this (by decide)
  ·rw [hE,hF,c]
   refine ⟨jU hA (by omega) (by
    have h1:(1:Int) < n.af.length:=by omega
    have h2:1 < n.af.length:=hl
    simp [lK,dr,Val.k,Val.n,Val.s,Val.ks,c,h1,h2]),fun h=>?_⟩
   simp [dr] at h
  ·grind [wP,dr]
  ·obtain ⟨i1,i2⟩:=D0 f x.to.toNat h3 (by omega) (by omega);have gl:=(gS hx).1;rw [hE,hF]
   have Z8:∀ e∈n.ai,e.bare=false:=fun e he=>by
    cases hb:e.bare with
    | false=>rfl
    | true=>have:=hN.bare e he hb;omega
   refine ⟨DX hA c (by simp) (uF (j:=x.to) ?_ (pZ fun e he=>lO e he (fG e he) (Z8 e he)) (by rw [List.getElem?_map,hx];rfl)),fun h=>?_⟩
   ·grind [zC]
   ·rw [aj (by omega),ap c] at h;have h:=congrArg (fun v:Val=>v.ks[k]?) h
    grind [Val.ks]
  ·rw [aj (by omega),aj (by omega),ap c] at hF;rcases hsh with ⟨k,x,bA,hx,HI,hE⟩ | ⟨k,x,hc,hx,hb,h3,h4,hE⟩
   ·rw [hE];refine ⟨L5 hA c hx fun hb=>lO x (mG hx) (nR HI hb) hb,fun h=>?_⟩;obtain ⟨c',e',HO,wa,_⟩:=hO.U5 hn u1 c
    grind [tagV,Val.n]
   ·obtain ⟨i1,i2⟩:=D0 f x.to.toNat h3 (by omega) (by omega)
    grind [DY,zC,tagV,Val.ks]
end
theorem J3 {s:Stp} (h:cF s=true):(s.k=2∨s.k=3∨s.k=4)->s.s=ay:=fun hk=>by
 unfold cF at h;rcases hk with c | c | c<;>rw [c] at h<;>simp at h<;>exact h.2
section
variable {L:Nat} {ND:List Nd} (aZ:∀ n∈ND,cf L ND.length n)
include aZ
theorem Vn {D:List Nat} (hO:gB ND D) {q:Pl} (hq:ql ND q) {x:Ed} (hx:q.d.ai[q.k]? = some x) (lu:lX D q=true) (hD:cz D x≠0) {v:Val} (hv:fitV ND v x.to=true):fitV ND (gx (bu ND D) q v) (q.i:Nat)=true:=by
 have hN:=aZ _ (mG hq.ah);have hA:=kD hq.ah;obtain ⟨k1,k5,k2,k3,k4,hk⟩:=kp hq
 have lO:∀ e∈q.d.ai,cz D e≠0->e.bare=false->fitV ND (bu ND D e.to.toNat) e.to=true:=fun e he h2 hb=>by
  have:=DZ aZ hO _ e.to.toNat (aV _) (Nat.pos_of_ne_zero h2)
  rwa [zC aZ hN he hb] at this
 have hB:∀ e∈q.d.ai,q.d.ag≠8->e.bare=false:=fun e he h8=>by
  cases hb:e.bare with
  | false=>rfl
  | true=>exact (h8 (hN.bare e he hb)).elim
 have SV:=mG hx;unfold lX at lu;simp only [bc,decide_eq_true_eq] at lu;unfold gx;rcases hk with c | c | c | c | c
 ·obtain ⟨c7,_⟩:=k1 c;rw [aj (by omega),ap c,c7];have Vo:=lu.2;simp [c] at Vo;have Vo:=mM.1 Vo
  have fG:∀ e∈q.d.ai,cz D e≠0:=fun e he=>by
   obtain ⟨j,hj,rfl⟩:=List.getElem_of_mem he;by_cases hjk:j=q.k
   ·subst hjk;rw [gE hj] at hx;cases hx;exact hD
   ·exact Vo j _ (gE hj) (by omega)
  exact DX hA c7 (by simp) (uF (j:=x.to) hv (pZ fun e he=>lO e he (fG e he) (hB e he (by omega))) (by rw [List.getElem?_map,hx];rfl))
 ·obtain ⟨c5,h0,h1⟩:=k2 c;obtain ⟨he,_,ht⟩:=uN aZ hq hx (.inl c5);rw [ap c,ht];refine wP hA (.inl c5) he ?_ fun y hy=>?_
  ·rw [aj (by omega),List.length_append,List.length_replicate,List.length_singleton];omega
  ·rcases List.mem_append.1 hy with hy | hy
   ·rw [(List.mem_replicate.1 hy).2];exact lO x SV hD (hB x SV (by omega))
   ·simp at hy;rw [hy];exact hv
 ·exact (lu.1 c).elim
 ·obtain ⟨c6,_⟩:=k4 c;obtain ⟨he,_⟩:=uN aZ hq hx (.inr c6);rw [aj (by omega),aj (by omega),aj (by omega)];refine wP hA (.inr c6) he ?_ fun y hy=>?_
  ·rw [ap c6];simp
  ·simp at hy;rw [hy];exact hv
 ·obtain ⟨c8,_⟩:=k5 c;rw [aj (by omega),aj (by omega),ap c,c8];obtain ⟨e',wa,hB',_⟩:=ej hq.fB;rw [hx] at wa;cases wa;exact DY hA c8 hx (.inr ⟨jC hN SV hB',_,rfl,hv⟩)
theorem Sr (F:Nat->Val) {q:Pl} (hq:ql ND q) {x:Ed} (hx:q.d.ai[q.k]? = some x) (h3:q.s.k≠3) (v:Val):∃ e,stepV ND (gx F q v) (q.i:Nat) q.s=some (e,v,x.to)/\∀ y,JL (gx F q v) e y=gx F q y:=by
 have hN:=aZ _ (mG hq.ah);have hA:=kD hq.ah;obtain ⟨k1,k5,k2,_,k4,hk⟩:=kp hq;obtain ⟨e',wa,hB',hr⟩:=ej hq.fB;rw [hx] at wa;cases wa;have htx:=J3 hr;have gl:=(gS hx).1;have dQ:=L4 hN hq;rcases hk with c | c | c | c | c
 ·obtain ⟨c7,hn⟩:=k1 c;rw [ap (.inl c)] at dQ;obtain ⟨_,EP,hp3⟩:=bV dQ;have hE:∀ y,gx F q y = .mk q.d.ag 0 ay ((q.d.ai.map fun e=>F e.to.toNat).set q.k y):=fun y=>by unfold gx;rw [aj (by omega),ap c]
  have hR:∀ j e,q.d.ai[j]? = some e->stpR q.d (gx F q v) j=⟨1,0,e.name⟩:=fun j e he=>by
   unfold stpR;rw [aj (by omega),aj (by omega),ap c7,he]
  have hs:q.s=⟨1,0,q.s.s⟩:=by
   cases Ei:q.s with
   | mk a b t=>rw [Ei] at c hn;simp only at c hn;rw [c,hn]
  have N2:uE q.d (gx F q v) q.s=some q.k:=by
   unfold uE;refine sL (by rw [hE];simpa [Val.ks] using gl) ?_ fun j hj=>?_
   ·rw [hR _ _ hx];refine mC.2 ?_;unfold qE at EP;rw [hx] at EP;have EP:=of_decide_eq_true EP;rw [hs,EP]
   ·have ll:j < q.d.ai.length:=by omega
    rw [hR _ _ (gE ll)];have:=hp3 j hj;unfold qE at this;rw [gE ll] at this;have:=of_decide_eq_false this;rw [hs];simp [lW,this]
  refine ⟨q.k,sK hA N2 ?_ ?_,fun y=>?_⟩
  ·rw [hE];exact gz (sU gl)
  ·unfold kidsL;rw [aj (by omega),ap c7,List.getElem?_map,hx];all_goals rfl
  ·rw [hE,hE];simp [JL,Val.k,Val.n,Val.s,Val.ks]
 ·obtain ⟨c5,h0,h1⟩:=k2 c;obtain ⟨he,_,ht⟩:=uN aZ hq hx (.inl c5);have hE:∀ y,gx F q y = .mk q.d.ag 0 ay (List.replicate q.s.n.toNat (F (to0 q.d).toNat) ++ [y]):=fun y=>by unfold gx;rw [ap c]
  have hR:∀ j,stpR q.d (gx F q v) j=⟨2,j,ay⟩:=fun j=>by
   unfold stpR;rw [ap c5]
  have hs:q.s=⟨2,(q.s.n.toNat:Nat),ay⟩:=by
   have Lc:=htx (.inl c)
   cases Ei:q.s with
   | mk a b t=>rw [Ei] at c h0 Lc;simp only at c h0 Lc ⊢;rw [c,Lc,Int.toNat_of_nonneg h0]
  have N2:uE q.d (gx F q v) q.s=some q.s.n.toNat:=by
   unfold uE;refine sL (by rw [hE];simp [Val.ks]) ?_ fun j hj=>?_
   ·rw [hR];exact mC.2 hs.symm
   ·rw [hR]
    cases hb:lW ⟨2,j,ay⟩ q.s with
    | false=>rfl
    | true=>
     have:=congrArg Stp.n (mC.1 hb);simp only at this;omega
  refine ⟨q.s.n.toNat,sK hA N2 ?_ ?_,fun y=>?_⟩
  ·rw [hE];simp [Val.ks]
  ·unfold kidsL;rw [ap (.inl c5),ht,hE];simp [Val.ks]
  ·rw [hE,hE];simp [JL,Val.k,Val.n,Val.s,Val.ks]
 ·exact (h3 c).elim
 ·obtain ⟨c6,hn⟩:=k4 c;obtain ⟨he,_,ht⟩:=uN aZ hq hx (.inr c6);have hE:∀ y,gx F q y = .mk q.d.ag 0 ay [y]:=fun y=>by unfold gx;rw [aj (by omega),aj (by omega),aj (by omega)]
  have hs:q.s=⟨4,0,ay⟩:=by
   have Lc:=htx (.inr (.inr c))
   cases Ei:q.s with
   | mk a b t=>rw [Ei] at c hn Lc;simp only at c hn Lc;rw [c,Lc,hn]
  refine ⟨0,sK hA ?_ (by rw [hE];rfl) ?_,fun y=>?_⟩
  ·unfold uE;refine sL (by rw [hE];simp [Val.ks]) ?_ fun j hj=>by omega
   refine mC.2 ?_;unfold stpR;rw [aj (by omega),ap c6,hs]
  ·unfold kidsL;rw [ap (.inr c6),ht,hE];simp [Val.ks]
  ·rw [hE,hE];simp [JL,Val.k,Val.n,Val.s,Val.ks]
 ·obtain ⟨c8,hn⟩:=k5 c;have hb:=jC hN (mG hx) hB'
  have sI:x.name=q.s.s:=by
   rw [ap (.inr c)] at dQ;have EP:=(bV dQ).2.1;unfold qE at EP;rw [hx] at EP;exact of_decide_eq_true EP
  have hE:∀ y,gx F q y = .mk q.d.ag (q.k:Nat) ay [y]:=fun y=>by unfold gx;rw [aj (by omega),aj (by omega),ap c]
  have hs:q.s=⟨5,0,q.s.s⟩:=by
   cases Ei:q.s with
   | mk a b t=>rw [Ei] at c hn;simp only at c hn;rw [c,hn]
  refine ⟨0,sK hA ?_ (by rw [hE];rfl) ?_,fun y=>?_⟩
  ·unfold uE;refine sL (by rw [hE];simp [Val.ks]) ?_ fun j hj=>by omega
   refine mC.2 ?_;unfold stpR;rw [aj (by omega),aj (by omega),aj (by omega),hE];simp only [Val.n,eH,hx];rw [hs,sI]
  ·have hT:vM q.d (.mk q.d.ag (q.k:Nat) ay [v])=some x:=by
    show (if q.d.ag=8/\(0:Int)<=(q.k:Nat)/\((q.k:Nat):Int) < q.d.ai.length then q.d.ai[((q.k:Nat):Int).toNat]? else none)=some x;rw [ap ⟨c8,by omega,by omega⟩,eH];exact hx
   unfold kidsL;rw [aj (by omega),aj (by omega),hE,hT];simp [hb]
  ·rw [hE,hE];simp [JL,Val.k,Val.n,Val.s,Val.ks]
theorem D1 {D:List Nat} (hO:gB ND D) {f:Nat->Nat->Bool} {m:Nat}:∀ (p:List Stp) (i a:Nat) {j b:Nat},walkV ND f m p i a=some (j,b)->(stpsV ND p i).all (lX D)=true->∀ v,fitV ND v (j:Nat)=true ->
  fitV ND (alnV (bu ND D) (stpsV ND p i) v) (i:Nat)=true/\getV ND p (alnV (bu ND D) (stpsV ND p i) v) (i:Nat)=some (v,(j:Int))/\∀ y,setV ND p (alnV (bu ND D) (stpsV ND p i) v) (i:Nat) y=alnV (bu ND D) (stpsV ND p i) y
 | [],i,a,j,b,h,_,v,hv=>by
  rw [walkV] at h;simp only [oI,Prod.mk.injEq] at h;obtain ⟨rfl,_⟩:=h;exact ⟨hv,rfl,fun y=>rfl⟩
 | s :: p,i,a,j,b,h,lu,v,hv=>by
  have u1:=pY aZ hO (s :: p) i a h lu (by have:=wM aZ hO v _ hv;simpa using this);obtain ⟨d,k,x,hd,hk,hx,hw⟩:=gk h;have hq:ql ND ⟨i,d,k,s⟩:=⟨hd,hk⟩;have hN:=aZ _ (mG hd);obtain ⟨e',wa,hB',hr⟩:=ej hk;rw [hx] at wa;cases wa;have mw:=zC aZ hN (mG hx) (jC hN (mG hx) hB');rw [nS hd hk hx] at lu u1 ⊢;rw [List.all_cons,bc] at lu;obtain ⟨x',Aq,hD⟩:=u1.2 _ (List.mem_cons_self ..);have aeP:d.ai[k]? = some x':=Aq;rw [hx] at aeP;cases aeP;obtain ⟨i1,i2,i3⟩:=D1 hO p _ _ hw lu.2 v hv;rw [mw] at i1 i2 i3
  have h3:s.k≠3:=by
   have:=lu.1;unfold lX at this;simp only [bc,decide_eq_true_eq] at this;exact this.1
  obtain ⟨e,aW,ox⟩:=Sr aZ (bu ND D) hq hx h3 (alnV (bu ND D) (stpsV ND p x.to.toNat) v);refine ⟨Vn aZ hO hq hx lu.1 hD i1,?_,fun y=>?_⟩
  ·rw [getV];have aW:stepV ND (alnV (bu ND D) (⟨i,d,k,s⟩ :: stpsV ND p x.to.toNat) v) (i:Nat) s=some (e,alnV (bu ND D) (stpsV ND p x.to.toNat) v,x.to):=aW;rw [aW];exact i2
  ·rw [setV];have aW:stepV ND (alnV (bu ND D) (⟨i,d,k,s⟩ :: stpsV ND p x.to.toNat) v) (i:Nat) s=some (e,alnV (bu ND D) (stpsV ND p x.to.toNat) v,x.to):=aW;rw [aW];show JL (gx _ _ _) e (setV ND p _ x.to y)=_;rw [i3,ox];rfl
end
section
variable {ND:List Nd} {f:Nat->Nat->Bool} {L obs:Nat}
theorem vq:∀ (u:Nat) (l:List UInt8),headsL u l l=true
 | 0,_=>rfl
 | u + 1,l=>by rw [headsL,vq u];simp
theorem zD (e:Ed) (x:Val):nZ e x x=true:=by
 unfold nZ
 repeat' split
 all_goals first | rfl | exact vq _ _ | exact decide_eq_true rfl
mutual
theorem zE:∀ (x:Val) (i:Int) (a:Nat),diffV ND f L obs x x i a=none
 | .mk k n s ks,i,a=>by
  rw [diffV,aj (by simp)]
  cases fQ ND i with
  | none=>rfl
  | some d=>exact pa ks d n a 0
theorem pa:∀ (ks:List Val) (d:Nd) (z:Int) (a j:Nat),diffVs ND f L obs ks ks d z a j=none
 | [],_,_,_,_=>by simp [diffVs]
 | x :: r,d,z,a,j=>by
  rw [diffVs]
  cases fT d z j with
  | none=>rfl
  | some e=>
   simp only;rw [zE x,zD,pa r];simp
end
def J4 (ND:List Nd) (f:Nat->Nat->Bool) (L obs:Nat) (d:Nd) (e:Ed) (a:Nat) (u v:Val):Option (List Stp):=
 if iL f L obs d e a=2 then diffV ND f L obs u v e.to (uJ f L d e a) else if iL f L obs d e a=1 then (if nZ e u v=true then none else some []) else none
theorem N4 (d:Nd) (e:Ed) (a:Nat) (u:Val):J4 ND f L obs d e a u u=none:=by
 unfold J4;rw [zE,zD];simp
theorem vt {d:Nd} {z:Int} {a j:Nat} {x y:Val} {r t:List Val} {e:Ed} (h:fT d z j=some e):(diffVs ND f L obs (x :: r) (y :: t) d z a j).isNone=((J4 ND f L obs d e a x y).isNone && (diffVs ND f L obs r t d z a (j + 1)).isNone):=by
 rw [diffVs,h];simp only;unfold J4;split
 ·rename_i h2;rw [h2];all_goals rfl
 ·rename_i h2;rw [h2];all_goals rfl
theorem zF:∀ (ks:List Val) (d:Nd) (z:Int) (a j e:Nat) {u v:Val} {ed:Ed},e < ks.length->(∀ m,m < ks.length->∃ x,fT d z (j + m)=some x)->fT d z (j + e)=some ed ->
  (diffVs ND f L obs (ks.set e u) (ks.set e v) d z a j).isNone=(J4 ND f L obs d ed a u v).isNone
 | [],_,_,_,_,_,_,_,_,he,_,_=>by simp at he
 | x :: r,d,z,a,j,0,u,v,ed,_,_,h=>by
  rw [List.set_cons_zero,List.set_cons_zero,vt (by rw [Nat.add_zero] at h;exact h),pa];simp
 | x :: r,d,z,a,j,e + 1,u,v,ed,he,hm,h=>by
  obtain ⟨x0,h0⟩:=hm 0 (by simp)
  rw [List.set_cons_succ,List.set_cons_succ,vt (by rw [Nat.add_zero] at h0;exact h0),N4,zF r d z a (j + 1) e (sU he) (fun m aq=>by
   obtain ⟨x,hx⟩:=hm (m + 1) (sU aq)
   exact ⟨x,by rwa [show j + 1 + m=j + (m + 1) by omega]⟩) (by rwa [show j + 1 + e=j + (e + 1) by omega])]
  simp
theorem N5 (F:Nat->Val) {q:Pl} (hN:cf L ND.length q.d) (hq:ql ND q) {x:Ed} (hx:q.d.ai[q.k]? = some x) (h3:q.s.k≠3) :
  ∃ (n0:Int) (ks0:List Val) (e:Nat),e < ks0.length/\(∀ y,gx F q y = .mk q.d.ag n0 ay (ks0.set e y))/\(∀ m,m < ks0.length->∃ x,fT q.d n0 m=some x)/\fT q.d n0 e=some x:=by
 obtain ⟨k1,k5,k2,_,k4,kk⟩:=kp hq;have aq:=(gS hx).1;rcases kk with c | c | c | c | c
 ·obtain ⟨h7,_⟩:=k1 c;refine ⟨0,q.d.ai.map fun e=>F e.to.toNat,q.k,by simpa using aq,fun y=>?_,fun m hm=>?_,?_⟩
  ·unfold gx;rw [aj (by omega),ap c]
  ·rw [fT,ap h7];exact ⟨_,gE (sU hm)⟩
  ·rw [fT,ap h7];exact hx
 ·obtain ⟨h5,_⟩:=k2 c;obtain ⟨e0,h1,_⟩:=hN.one (.inl h5);have hk:q.k=0:=by rw [h1,List.length_singleton] at aq;omega
  rw [hk] at hx;have he:∀ m,fT q.d 0 m=some x:=fun m=>by rw [fT,aj (by omega),aj (by omega)];exact hx
  refine ⟨0,List.replicate q.s.n.toNat (F (to0 q.d).toNat) ++ [zeroV],q.s.n.toNat,by simp,fun y=>?_,fun m _=>⟨_,he m⟩,he _⟩;unfold gx;rw [ap c];simp [List.set_append]
 ·exact (h3 c).elim
 ·obtain ⟨h6,_⟩:=k4 c;obtain ⟨e0,h1,_⟩:=hN.one (.inr h6);have hk:q.k=0:=by rw [h1,List.length_singleton] at aq;omega
  rw [hk] at hx;have he:∀ m,fT q.d 0 m=some x:=fun m=>by rw [fT,aj (by omega),aj (by omega)];exact hx
  refine ⟨0,[zeroV],0,by simp,fun y=>?_,fun m _=>⟨_,he m⟩,he _⟩;unfold gx;rw [aj (by omega),aj (by omega),aj (by omega)];rfl
 ·obtain ⟨h8,_⟩:=k5 c;have he:∀ m,fT q.d (q.k:Int) m=some x:=fun m=>by rw [fT,aj (by omega),ap h8,eH];exact hx
  refine ⟨q.k,[zeroV],0,by simp,fun y=>?_,fun m _=>⟨_,he m⟩,he _⟩;unfold gx;rw [aj (by omega),aj (by omega),ap c];rfl
theorem Ss (F:Nat->Val) {q:Pl} (hN:cf L ND.length q.d) (hq:ql ND q) {x:Ed} (hx:q.d.ai[q.k]? = some x) (h3:q.s.k≠3) (u v:Val) (a:Nat) :
  (diffV ND f L obs (gx F q u) (gx F q v) (q.i:Nat) a).isNone=(J4 ND f L obs q.d x a u v).isNone:=by
 obtain ⟨n0,ks0,e,h1,h2,h4,h5⟩:=N5 F hN hq hx h3;rw [h2,h2,diffV,aj (by simp),kD hq.ah];exact zF ks0 q.d n0 a 0 e h1 (fun m hm=>by rw [Nat.zero_add];exact h4 m hm) (by rw [Nat.zero_add];exact h5)
end
section
variable (ND:List Nd) (f:Nat->Nat->Bool) (n obs:Nat)
def visV:List Stp->Nat->Nat->Nat
 | [],_,_=>2
 | s :: p,i,a=>match ND[i]? with
  | none=>3
  | some d=>match ik d s with
   | none=>3
   | some k=>match d.ai[k]? with
    | none=>3
    | some e=>if iL f n obs d e a=2 then visV p e.to.toNat (lG f n a e.label.toNat) else if p=[] then iL f n obs d e a else 3
end
section
variable {ND:List Nd} {f:Nat->Nat->Bool} {n obs:Nat}
theorem p8 {s:Stp} {p:List Stp} {i a:Nat} {d:Nd} {k:Nat} {e:Ed} (h1:ND[i]? = some d) (h2:ik d s=some k) (h3:d.ai[k]? = some e) :
  visV ND f n obs (s :: p) i a=if iL f n obs d e a=2 then visV ND f n obs p e.to.toNat (lG f n a e.label.toNat) else if p=[] then iL f n obs d e a else 3:=by
 rw [visV,h1];simp only;rw [h2];simp only;rw [h3]
theorem Hi:∀ (p:List Stp) (i a:Nat) {j b:Nat},walkV ND f n p i a=some (j,b)->visV ND f n obs p i a=2->∀ {s:Stp} {d:Nd} {k:Nat} {e:Ed},ND[j]? = some d->ik d s=some k->d.ai[k]? = some e->visV ND f n obs (p ++ [s]) i a=iL f n obs d e b
 | [],i,a,j,b,h,_,s,d,k,e,h1,h2,h3=>by
  rw [walkV] at h;cases h;rw [List.nil_append,p8 h1 h2 h3];split
  ·rename_i c;rw [c];all_goals rfl
  ·rfl
 | t :: p,i,a,j,b,h,hv,s,d,k,e,h1,h2,h3=>by
  obtain ⟨d0,k0,x0,g1,g2,g3,g4⟩:=gk h;rw [p8 g1 g2 g3] at hv;rw [List.cons_append,p8 g1 g2 g3];by_cases c:iL f n obs d0 x0 a=2
  ·rw [ap c] at hv ⊢;exact Hi p _ _ g4 hv h1 h2 h3
  ·rw [aj c] at hv;split at hv
   ·exact (c hv).elim
   ·cases hv
theorem Hj (F:Nat->Val) (hL:dA f n) (aZ:∀ d∈ND,cf n ND.length d) (iq:∀ (i:Nat) d,ND[i]? = some d->∀ e∈d.ai,d.ag < 7->e.label.toNat=dC f n) :
  ∀ (p:List Stp) (i a:Nat) {j b:Nat},a < n->walkV ND f n p i a=some (j,b)->(∀ s∈p,s.k≠3)->∀ x y,
   (visV ND f n obs p i a=2->(diffV ND f n obs (alnV F (stpsV ND p i) x) (alnV F (stpsV ND p i) y) (i:Nat) a).isNone=(diffV ND f n obs x y (j:Nat) b).isNone) /\
   (visV ND f n obs p i a=0->(diffV ND f n obs (alnV F (stpsV ND p i) x) (alnV F (stpsV ND p i) y) (i:Nat) a).isNone=true)
 | [],i,a,j,b,_,h,_,x,y=>by
  rw [walkV] at h;cases h;exact ⟨fun _=>rfl,fun h=>by cases h⟩
 | s :: p,i,a,j,b,ha,h,h3,x,y=>by
  obtain ⟨d,k,e,g1,g2,g3,g4⟩:=gk h;have hN:=aZ d (mG g1);have hm:=mG g3;obtain ⟨e',wa,hB,_⟩:=ej g2;rw [g3] at wa;cases wa;obtain ⟨q1,q2,_⟩:=eV hN hm;have mw:=(q1 (jC hN hm hB)).1;have ih:=Hj F hL aZ iq p e.to.toNat (lG f n a e.label.toNat) (nJ hL ha q2.2) g4 (fun s hs=>h3 s (by simp [hs])) x y
  have hu:uJ f n d e a=lG f n a e.label.toNat:=by
   unfold uJ;split
   ·rename_i c;rw [iq i d g1 e hm c,Dm hL ha]
   ·rfl
  rw [nS g1 g2 g3,p8 g1 g2 g3,alnV,alnV];have hd:=fun u v=>Ss (f:=f) (obs:=obs) F (q:=⟨i,d,k,s⟩) hN ⟨g1,g2⟩ g3 (h3 s (by simp)) u v a;simp only at hd;rw [hd];unfold J4;rw [hu,mw];by_cases c:iL f n obs d e a=2
  ·rw [ap c,ap c];exact ih
  ·rw [aj c,aj c];refine ⟨fun h=>?_,fun h=>?_⟩
   ·split at h
    ·exact (c h).elim
    ·cases h
   ·split at h
    ·rw [aj (by omega)];rfl
    ·cases h
theorem Hk {L N:Nat} {d:Nd} (hN:cf L N d) {e:Ed} (he:e∈d.ai) (aZ:Eg d e=true):∃ k,ik d (eD d e)=some k/\d.ai[k]? = some e:=by
 obtain ⟨k,hk⟩:=List.getElem?_of_mem he;have aq:=(gS hk).1;have h8:=hN.k8
 have h5:5<=d.ag:=by
  rcases Int.lt_or_le d.ag 5 with c | c
  ·rw [hN.leaf c] at he;cases he
  ·exact c
 have hb:e.bare=false:=by
  cases hb:e.bare
  ·rfl
  ·have h8:=hN.bare e he hb
   grind [Eg]
 have hS:cF (eD d e)=true/\iK d (eD d e) e=true/\(d.ag=7∨d.ag=8->(eD d e).s=e.name/\((eD d e).k=1∨(eD d e).k=5)):=by
  rcases (show d.ag=5∨d.ag=6∨d.ag=7∨d.ag=8 by omega) with c | c | c | c
  ·have hm:0 < d.most:=by
    unfold Eg at aZ;rw [aj (by omega),ap c] at aZ;exact of_decide_eq_true aZ
   unfold eD;rw [ap c];simp [cF,iK,c,hm];rfl
  ·unfold eD;rw [aj (by omega),ap c];simp [cF,iK,c];rfl
  ·have:=(hN.many (.inl c)).2.2.2 e he;unfold eD;rw [aj (by omega),aj (by omega),ap c];simp [cF,iK,c,hb,this]
  ·have:=(hN.many (.inr c)).2.2.2 e he;unfold eD;rw [aj (by omega),aj (by omega),aj (by omega)];simp [cF,iK,c,hb,this]
 obtain ⟨s1,s2,s3⟩:=hS;refine ⟨k,?_,hk⟩;unfold ik;rw [ap s1];refine bU aq (by rw [edgeP,hk];exact s2) fun a ha=>?_;obtain ⟨x,hx⟩:∃ x,d.ai[a]? = some x:=⟨_,gE (by omega)⟩;rw [edgeP,hx];show iK d (eD d e) x=false
 cases KE:iK d (eD d e) x with
 | false=>rfl
 | true=>
  exfalso;rcases (show (d.ag=5∨d.ag=6)∨(d.ag=7∨d.ag=8) by omega) with c | c
  ·obtain ⟨e0,h1,_⟩:=hN.one c;rw [h1,List.length_singleton] at aq;omega
  ·obtain ⟨t1,t2⟩:=s3 c
   have hn:x.name=(eD d e).s:=by
    unfold iK at KE;simp only [Bool.or_eq_true,bc,decide_eq_true_eq] at KE;rcases KE with ((h | h) | h) | h
    ·exact h.2.1
    ·exact h.2.1
    ·omega
    ·omega
   rw [t1] at hn;have hd:=(hN.many c).2.2.1
   have h3:(d.ai.map Ed.name)[a]? = (d.ai.map Ed.name)[k]?:=by
    rw [List.getElem?_map,List.getElem?_map,hx,hk];simpa using hn
   have:=(List.getElem?_inj (by simpa using (gS hx).1) hd).1 h3;omega
structure Su (ND:List Nd) (f:Nat->Nat->Bool) (n root obs:Nat) (r:bK):Prop where
 wk:walkV ND f n r.p root (dC f n)=some (r.ah,r.lv)
 vs:visV ND f n obs r.p root (dC f n)=r.how
 hw:r.how=2↔f r.lv obs=true
 lt:r.lv < n
theorem Vp (hL:dA f n) (aZ:∀ d∈ND,cf n ND.length d) (iq:∀ (i:Nat) d,ND[i]? = some d->∀ e∈d.ai,d.ag < 7->e.label.toNat=dC f n) {root:Nat} {r:bK} (h:Su ND f n root obs r) (h2:r.how=2) {d:Nd} (hd:ND[r.ah]? = some d) {e:Ed} (he:e∈d.ai) (hk:Eg d e=true) :
  Su ND f n root obs (sF f n obs d e r):=by
 have hN:=aZ d (mG hd);obtain ⟨k,kh,Kz⟩:=Hk hN he hk;obtain ⟨_,q2,_⟩:=eV hN he
 have hu:(if d.ag < 7 then r.lv else lG f n r.lv e.label.toNat)=lG f n r.lv e.label.toNat:=by
  split
  ·rename_i c;rw [iq _ d hd e he c,Dm hL h.lt]
  ·rfl
 refine ⟨?_,?_,?_,nJ hL h.lt q2.2⟩
 ·show walkV ND f n (r.p ++ [eD d e]) root (dC f n)=some (e.to.toNat,lG f n r.lv e.label.toNat)
  have:∀ (p:List Stp) (i a:Nat) {j b:Nat},walkV ND f n p i a=some (j,b)->walkV ND f n (p ++ [eD d e]) i a=walkV ND f n [eD d e] j b:=fun p=>by
   induction p with
   | nil=>intro i a j b h;rw [walkV] at h;cases h;rfl
   | cons t p ih=>
    intro i a j b h;obtain ⟨d0,k0,x0,g1,g2,g3,g4⟩:=gk h;rw [List.cons_append,zu g1 g2 g3,ih _ _ g4]
  rw [this _ _ _ h.wk,zu hd kh Kz,walkV]
 ·exact Hi r.p _ _ h.wk (h.vs.trans h2) hd kh Kz
 ·show iL f n obs d e r.lv=2↔f (lG f n r.lv e.label.toNat) obs=true;unfold iL;rw [hu];constructor
  ·intro h;split at h
   ·assumption
   ·split at h<;>cases h
  ·intro h;rw [ap h]
theorem L6 (hL:dA f n) (aZ:∀ d∈ND,cf n ND.length d) (iq:∀ (i:Nat) d,ND[i]? = some d->∀ e∈d.ai,d.ag < 7->e.label.toNat=dC f n) {root:Nat} {F:bK->Nat->List bK} {d:Nd} {r:bK} (hr:Su ND f n root obs r) (h2:r.how=2) (hd:ND[r.ah]? = some d) {may:Nat}
  (hF:∀ r' m,Su ND f n root obs r' -> ∀ x∈F r' m,Su ND f n root obs x):∀ (es:List Ed) (acc:List bK),(∀ e∈es,e∈d.ai)->(∀ x∈acc,Su ND f n root obs x)->∀ x∈es.foldl (o0 f n obs F d r may) acc,Su ND f n root obs x
 | [],acc,_,ha,x,hx=>ha x hx
 | e :: es,acc,iO,ha,x,hx=>by
  refine L6 hL aZ iq hr h2 hd hF es (o0 f n obs F d r may acc e) (fun e he=>iO e (by simp [he])) (fun y hy=>?_) x hx;unfold o0 at hy;split at hy
  ·rename_i hk;rcases List.mem_append.1 hy with hy | hy
   ·exact ha y hy
   ·exact hF _ _ (Vp hL aZ iq hr h2 hd (iO e (by simp)) hk) y hy
  ·exact ha y hy
theorem L7 (hL:dA f n) (aZ:∀ d∈ND,cf n ND.length d) (iq:∀ (i:Nat) d,ND[i]? = some d->∀ e∈d.ai,d.ag < 7->e.label.toNat=dC f n) {root dep:Nat}:∀ (k:Nat) (r:bK) (may:Nat),Su ND f n root obs r->∀ x∈rowsV ND f n obs dep k r may,Su ND f n root obs x
 | 0,r,may,hr,x,hx=>by
  rw [rowsV] at hx;split at hx
  ·cases hx
  ·rw [List.mem_singleton.1 hx];exact hr
 | k + 1,r,may,hr,x,hx=>by
  rw [rowsV] at hx;split at hx
  ·cases hx
  split at hx
  ·rw [List.mem_singleton.1 hx];exact hr
  rename_i hs;split at hx
  ·rw [List.mem_singleton.1 hx];exact hr
  rename_i d hd;exact L6 hL aZ iq hr (by omega) hd (fun r' m h=>L7 hL aZ iq k r' m h) d.ai [r] (fun _ h=>h) (fun y hy=>by rw [List.mem_singleton.1 hy];exact hr) x hx
theorem Vq (hL:dA f n) (aZ:∀ d∈ND,cf n ND.length d) (iq:∀ (i:Nat) d,ND[i]? = some d->∀ e∈d.ai,d.ag < 7->e.label.toNat=dC f n) {root:Nat} {o dp:Int}:∀ x∈mF ND f n root o dp,(0<=o/\o < n)/\Su ND f n root o.toNat x:=by
 intro x hx;unfold mF at hx;split at hx
 ·rename_i h;refine ⟨⟨h.1,h.2.1⟩,L7 hL aZ iq _ _ _ ⟨?_,rfl,?_,lH hL⟩ x hx⟩
  ·rw [walkV]
  ·exact ⟨fun _=>Lv hL (by omega),fun _=>rfl⟩
 ·cases hx
theorem zG {F:bK->Nat->List bK} {d:Nd} {r:bK} {may:Nat}:∀ (es:List Ed) {acc:List bK} {x:bK},acc[0]? = some x->(es.foldl (o0 f n obs F d r may) acc)[0]? = some x
 | [],_,_,h=>h
 | e :: es,acc,x,h=>by
  refine zG es ?_;unfold o0;split
  ·rw [dc (gS h).1];exact h
  ·exact h
theorem J5 {dep:Nat}:∀ (k:Nat) (r:bK) (may:Nat),rowsV ND f n obs dep k r may=[]∨(rowsV ND f n obs dep k r may)[0]? = some r
 | 0,r,may=>by rw [rowsV];split<;>simp
 | k + 1,r,may=>by
  rw [rowsV];split
  ·simp
  split
  ·simp
  split
  ·simp
  ·exact .inr (zG _ rfl)
theorem J6 {root:Nat} {o dp:Int} {x:bK} (h:(mF ND f n root o dp)[0]? = some x):x.ah=root:=by
 unfold mF at h;split at h
 ·rcases J5 (ND:=ND) (f:=f) (n:=n) (obs:=o.toNat) (dep:=(min dp 64).toNat) (min dp 64).toNat ⟨[],root,dC f n,2⟩ 1000 with h2 | h2
  ·unfold Nz at h;rw [h2] at h;cases h
  ·unfold Nz at h;rw [h2] at h;cases h;rfl
 ·cases h
def vu (s:Stp):Stp:=if s.k=3 then ⟨2,0,ay⟩ else s
theorem Sv {L N:Nat} {d:Nd} (hN:cf L N d) {s:Stp} {k k':Nat} (h:ik d s=some k) (h':ik d (vu s)=some k'):k'=k:=by
 unfold vu at h';split at h'
 ·rename_i c;obtain ⟨e,he,hB,_⟩:=ej h;obtain ⟨e',wa,_⟩:=ej h'
  have h5:d.ag=5:=by
   unfold iK at hB;simp only [Bool.or_eq_true,bc,decide_eq_true_eq] at hB;omega
  obtain ⟨e0,h1,_⟩:=hN.one (.inl h5);have l1:=(gS he).1;have l2:=(gS wa).1;rw [h1,List.length_singleton] at l1 l2;omega
 ·rw [h] at h';cases h';rfl
theorem Hl (aZ:∀ d∈ND,cf n ND.length d):∀ (p:List Stp) (i a:Nat) {r r':Nat × Nat},walkV ND f n p i a=some r->walkV ND f n (p.map vu) i a=some r' -> r'=r/\visV ND f n obs (p.map vu) i a=visV ND f n obs p i a
 | [],i,a,r,r',h,h'=>by
  rw [List.map_nil] at h';rw [h] at h';cases h';exact ⟨rfl,rfl⟩
 | s :: p,i,a,r,r',h,h'=>by
  obtain ⟨d,k,e,g1,g2,g3,g4⟩:=gk h;rw [List.map_cons] at h' ⊢;obtain ⟨d',k',e',q1,q2,q3,q4⟩:=gk h';rw [g1] at q1;cases q1;obtain rfl:=Sv (aZ d (mG g1)) g2 q2;rw [g3] at q3;cases q3;obtain ⟨h1,h2⟩:=Hl aZ p _ _ g4 q4;refine ⟨h1,?_⟩;rw [p8 g1 q2 g3,p8 g1 g2 g3,h2];simp
theorem itm_3 {p:List Stp}:∀ s∈p.map vu,s.k≠3:=fun s hs=>by
 obtain ⟨t,_,rfl⟩:=List.mem_map.1 hs;unfold vu;split
 ·simp
 ·assumption
theorem J7 (hL:dA f n) (aZ:∀ d∈ND,cf n ND.length d) (iq:∀ (i:Nat) d,ND[i]? = some d->∀ e∈d.ai,d.ag < 7->e.label.toNat=dC f n) {root:Nat} {r:bK} (hr:Su ND f n root obs r) {c d:Val} (h:pairF ND (walkV ND f n (r.p.map vu) root (dC f n)) (stpsV ND (r.p.map vu) root)=some (c,d)) :
  c.wt<=549755813888/\d.wt<=549755813888/\fitV ND c (root:Nat)=true/\fitV ND d (root:Nat)=true/\(r.how=0->(diffV ND f n obs c d (root:Nat) (dC f n)).isNone=true) /\
   (r.how=2->∀ m,ND[r.ah]? = some m->m.ag < 7->(diffV ND f n obs c d (root:Nat) (dC f n)).isNone=false):=by
 have M1:=fun {v u:Val}=>@Vm ND n aZ f n (r.p.map vu) root (dC f n) v u
 cases hw:walkV ND f n (r.p.map vu) root (dC f n) with
 | none=>rw [hw] at h;cases h
 | some r'=>
  obtain ⟨rfl,hvi⟩:=Hl (obs:=obs) aZ r.p _ _ hr.wk hw;rw [hw] at h M1;unfold pairF at h;simp only at h;split at h
  ·rename_i hc;obtain ⟨h1,h2⟩:=hc;obtain ⟨Vi,hx⟩:=B4 aZ h1;obtain ⟨zT,uU,hy⟩:=B5 aZ h2;obtain ⟨hyf,hyn⟩:=D0 aZ 4096 r.ah zT (by omega) uU;split at h
   ·rename_i a' c' hA hC;cases h;have w1:=M1 hA;have w2:=M1 hC;unfold o9 at hA hC;simp only at hA hC;split at hA
    ·rename_i hA1;split at hC
     ·rename_i hC1;cases hA;cases hC;obtain ⟨a1,a2,a3⟩:=D1 aZ (il ND) (r.p.map vu) root (dC f n) hw hA1.2.1 _ hA1.1;obtain ⟨b1,b2,_⟩:=D1 aZ (il ND) (r.p.map vu) root (dC f n) hw hA1.2.1 _ hC1.1;obtain ⟨d1,d2⟩:=Hj (obs:=obs) (bu ND (aQ ND)) hL aZ iq (r.p.map vu) root (dC f n) (lH hL) hw itm_3 (bu ND (aQ ND) r.ah) (Al ND (aQ ND) (fx ND) r.ah);rw [hvi,hr.vs] at d1 d2;refine ⟨by omega,by omega,a1,b1,d2,fun hh m hm h7=>?_⟩;rw [d1 hh];have hxk:=hA1.1;have OQ:=hC1.1;obtain ⟨d3,f3⟩:=ij aZ hxk;obtain ⟨d4,f4⟩:=ij aZ OQ;have e3:=f3.ah;have e4:=f4.ah;rw [kD hm] at e3 e4;cases e3;cases e4
      have Oy:(bu ND (aQ ND) r.ah).ks=[]:=by
       unfold bu
       cases hl:ND.length with
       | zero=>rfl
       | succ z=>
        rw [firstV,hm];simp only
        repeat' split
        all_goals first | rfl | omega | (simp only [dr,Val.ks]) | skip
      have hk3:=f3.k;have hk4:=f4.k;have ZI:Al ND (aQ ND) (fx ND) r.ah≠bu ND (aQ ND) r.ah:=hyn;generalize bu ND (aQ ND) r.ah=X at Oy hk3 ZI ⊢;generalize Al ND (aQ ND) (fx ND) r.ah=Y at hk4 ZI ⊢;obtain ⟨xk,xn,xs,xl⟩:=X;obtain ⟨yk,yn,ys,yl⟩:=Y;simp only [Val.ks,Val.k] at Oy hk3 hk4;subst Oy hk3 hk4;rw [diffV];by_cases c:xn≠yn∨xs≠ys∨([]:List Val).length≠yl.length
      ·rw [ap c];all_goals rfl
      ·exfalso;refine ZI ?_
       have hyl:yl=[]:=by
        have:yl.length=0:=by grind
        exact List.eq_nil_of_length_eq_zero this
       subst hyl
       grind
     ·cases hC
    ·cases hA
   ·cases h
  ·cases h
end
def fy (ND:List Nd) (af:List ByteArray) (L:List bK) (e:Nat):List UInt8:=((L.take e).map (nY ND af)).flatten
theorem vv {ND:List Nd} {af:List ByteArray} {L:List bK} {e:Nat} {x:bK} (h:L[e]? = some x):fy ND af L (e + 1)=fy ND af L e ++ nY ND af x:=by
 unfold fy;rw [List.take_add_one,h];simp
theorem B6 {ND:List Nd} {af:List ByteArray} (h:∀ s∈af,s.size<=32):∀ {L:List bK},(∀ r∈L,∀ s∈r.p,uC s)->((L.map (nY ND af)).flatten).length<=2200 * L.length
 | [],_=>by simp
 | r :: L,hi=>by
  have h1:=NI (ND:=ND) h (hi r (by simp));have h2:=B6 (ND:=ND) h (L:=L) (fun x hx=>hi x (by simp [hx]))
  grind
theorem J8 {ND:List Nd} {af:List ByteArray} (h:∀ s∈af,s.size<=32) {L:List bK} (hl:L.length<=1000) (hi:∀ r∈L,∀ s∈r.p,uC s) (e:Nat):(fy ND af L e).length<=2200000:=by grind [B6,fy]
def D2 (ND:List Nd) (af:List ByteArray) (L:List bK):List UInt8:=(L.map (nY ND af)).flatten
theorem J9 {ND:List Nd} {af:List ByteArray} {L:List bK}:fy ND af L L.length=D2 ND af L:=by
 unfold fy D2;rw [List.take_length]
abbrev Xl (PC:List DV) (L:List bK):St:=⟨[eX 0 PC,aE 7 0,aM 16 4 (iY L),au 17 ((iY L).length),au 18 (0:Nat)],[[.v (.pointer none),.v (.slice none 0 0)]],[]⟩
abbrev atSt (PC:List DV) (L:List bK) (T:List UInt8) (e:Nat):St:=⟨[eX 0 PC,aE 7 0,aM 16 4 (iY L),au 17 ((iY L).length),au 18 e],[[.loc 0 0,.sl 1 (bD T) (some 0)]],[⟨T.length,5,1,none⟩]⟩
theorem N6 {S:Sch} (hF:sA S):∀ s∈az S.ae,s.size<=32:=by
 have h:=(nH hF.lat).2.1
 have h2:=(q8 fun j x hx=>by
  have h3:(enumL S.ae 0 S.ae).1=0:=h;have:=uw (all:=S.ae) (i:=0) h3 j x hx
  rwa [Nat.zero_add] at this).2
 intro s hs;obtain ⟨w,hw,rfl⟩:=List.mem_map.1 hs;exact uD (h2 w hw)
set_option maxHeartbeats 4000000 in
theorem Ka {S:Sch} {ND:List Nd} {PC:List DV} (hP:dX S ND PC) (root:Nat) (mQ:dw S=root) (dK:root < ND.length) (o dp:Int):EvP prog 85 [.pt PC 0,.v (.int .i64 o),.v (.int .i64 dp)]
  (.v (.string (ba (D2 ND (az S.ae) (mF ND (aH S) S.ae.length root o dp))))):=by
 obtain ⟨LC,ir,BA⟩:=hP.Np;have L8:=zk hP root mQ dK o dp;have Cn:=LS BA.ok hP.ok dK o dp;have tf:=BI (ND:=ND) (f:=aH S) (n:=S.ae.length) (root:=root) (o:=o) (dp:=dp);have Kb:=N6 hP.fine;have fI:=dz S.ae;generalize mF ND (aH S) S.ae.length root o dp=L at L8 Cn tf ⊢;have cu:=Bw L;have hsT:=fun e=>J8 (ND:=ND) Kb tf (fun r hr=>(Cn r hr).Zr) e;rw [<- J9];refine v7 (s:=false) (bt:=[(0,160)]) (hbt:=fun p hp=>Nat.zero_le _) (P:=prog) tt nV 5000 56 [.tmp 6] func85 rfl ntmps85 rfl (nL rfl) (fun _ _ _ _=>?_);refine cP aa1 L8 ?_;refine aY (fun j st=>∃ e:Nat,((e=0/\st=Xl PC L)∨(fy ND (az S.ae) L e ≠ []/\st=atSt PC L (fy ND (az S.ae) L e) e))/\e<=L.length/\j=L.length - e) L.length (Xl PC L) (bz wB) ⟨0,.inl ⟨rfl,rfl⟩,by omega,by omega⟩ ?_;rintro j st ⟨e,(⟨rfl,rfl⟩ | ⟨Ry,rfl⟩),he,rfl⟩
 ·refine br ?_ ?_<;>intro hL
  ·have aq:0 < L.length:=sV cu hL;obtain ⟨x,hx⟩:=gX aq;have NC:=Cn x (mG hx);have hf:=BF x.p NC.Zr;obtain ⟨d,hd⟩:∃ d,ND[x.ah]? = some d:=⟨_,gE NC.ah⟩;have cS:=hP.ah x.ah d hd;obtain ⟨w,hw⟩:∃ w,(az S.ae)[x.lv]? = some w:=⟨_,gE (by rw [fI];exact NC.lv)⟩;have zH:=BA.name x.lv w hw;have SU:=Kb w (mG hw);have hk:=vl d.ag;have gl:=uH d.ag;have hh:=GK x.how;have hhl:=zi x.how;have gP:=uI NC.Zr
   have N7:nY ND (az S.ae) x=(if lh x.p=[] then [46] else lh x.p) ++ (32 :: tx (qC d.ag)) ++ (32 :: tx w) ++ (32 :: tx (Ah x.how)) ++ [10]:=by
    have h1:kdN ND x.ah=d.ag:=by unfold kdN;rw [hd]
    have h2:nmN (az S.ae) x.lv=w:=by unfold nmN;rw [hw]
    rw [nY,h1,h2];all_goals rfl
   have bA:=GL (ND:=ND) (af:=az S.ae) (r:=x);have dx:=vv (ND:=ND) (af:=az S.ae) hx;have zP:=hsT (0 + 1);have hp0:fy ND (az S.ae) L 0=[]:=rfl;rw [hp0,List.nil_append] at dx;have hnn:fy ND (az S.ae) L (0 + 1) ≠ []:=by rw [dx];simp [bA]
   clear NC L8;obtain ⟨p,nd,l,h⟩:=x;simp only at hf hd cS hw zH hh hhl gP N7;generalize lh p=PT at hf gP N7;generalize Ah h=HT at hh hhl N7;obtain ⟨ag,aO,lo,hi,most,af,es⟩:=d;simp only at N7 hk gl;generalize qC ag=KT at hk gl N7;rw [N7] at dx;refine iX (pP hx) ?_;refine cP VO hf ?_;refine br ?_ ?_<;>intro c
   ·have c:PT=[]:=by grind
    rw [ap c] at dx;refine cP oE cS ?_;refine ki (fun i=>Nat.beq i 19) mo (by decide +kernel) ?_;refine ⟨by (simp only [bQ,dg,List.length_cons,List.length_nil];omega),?_⟩;refine cD KJ hk ?_;refine ⟨by (simp only [bQ,dg,List.length_cons,List.length_nil];omega),?_⟩;refine ⟨by (simp only [bQ,dg,List.length_cons,List.length_nil];omega),?_⟩;refine cD tJ ir ?_;refine cD KI zH ?_;refine ⟨by (simp only [bQ,dg,List.length_cons,List.length_nil];omega),?_⟩;refine ⟨by (simp only [bQ,dg,List.length_cons,List.length_nil];omega),?_⟩;refine cD KK hh ?_;refine ⟨by (simp only [bQ,dg,List.length_cons,List.length_nil];omega),?_⟩;refine ⟨by (simp only [bQ,dg,List.length_cons,List.length_nil];omega),?_⟩;refine kO rfl (mE rfl (fy ND (az S.ae) L (0 + 1)) (l:=[]) (kt:=0) (by rw [dx];simp [tx]) (.head _) rfl (.inl rfl) (.inl ⟨rfl,rfl,rfl,rfl⟩) (by (simp only [bQ,dg,List.length_cons,List.length_nil];omega)) (by omega) rfl ?_);exact rE ⟨_,by omega,0 + 1,.inr ⟨hnn,rfl⟩,by omega,rfl⟩ (bz (cJ (aG aq (by omega))))
   ·have c:¬ PT=[]:=fun h=>by grind
    rw [aj c] at dx;refine cP oE cS ?_;refine ki (fun i=>Nat.beq i 19) mo (by decide +kernel) ?_;refine ⟨by (simp only [bQ,dg,List.length_cons,List.length_nil];omega),?_⟩;refine cD KJ hk ?_;refine ⟨by (simp only [bQ,dg,List.length_cons,List.length_nil];omega),?_⟩;refine ⟨by (simp only [bQ,dg,List.length_cons,List.length_nil];omega),?_⟩;refine cD tJ ir ?_;refine cD KI zH ?_;refine ⟨by (simp only [bQ,dg,List.length_cons,List.length_nil];omega),?_⟩;refine ⟨by (simp only [bQ,dg,List.length_cons,List.length_nil];omega),?_⟩;refine cD KK hh ?_;refine ⟨by (simp only [bQ,dg,List.length_cons,List.length_nil];omega),?_⟩;refine ⟨by (simp only [bQ,dg,List.length_cons,List.length_nil];omega),?_⟩;refine kO rfl (mE rfl (fy ND (az S.ae) L (0 + 1)) (l:=[]) (kt:=0) (by rw [dx];simp [tx]) (.head _) rfl (.inl rfl) (.inl ⟨rfl,rfl,rfl,rfl⟩) (by (simp only [bQ,dg,List.length_cons,List.length_nil];omega)) (by omega) rfl ?_);exact rE ⟨_,by omega,0 + 1,.inr ⟨hnn,rfl⟩,by omega,rfl⟩ (bz (cJ (aG aq (by omega))))
  ·have hge:L.length=0:=by have:=hL;simp [cu] at this;first | omega | simp [this]
   rw [hge];refine GC rfl (.head _) rfl rfl rfl rfl ?_;exact (rfl:_=_)
 ·refine br ?_ ?_<;>intro hL
  ·have aq:e < L.length:=sV cu hL;obtain ⟨x,hx⟩:=gX aq;have NC:=Cn x (mG hx);have hf:=BF x.p NC.Zr;obtain ⟨d,hd⟩:∃ d,ND[x.ah]? = some d:=⟨_,gE NC.ah⟩;have cS:=hP.ah x.ah d hd;obtain ⟨w,hw⟩:∃ w,(az S.ae)[x.lv]? = some w:=⟨_,gE (by rw [fI];exact NC.lv)⟩;have zH:=BA.name x.lv w hw;have SU:=Kb w (mG hw);have hk:=vl d.ag;have gl:=uH d.ag;have hh:=GK x.how;have hhl:=zi x.how;have gP:=uI NC.Zr
   have N7:nY ND (az S.ae) x=(if lh x.p=[] then [46] else lh x.p) ++ (32 :: tx (qC d.ag)) ++ (32 :: tx w) ++ (32 :: tx (Ah x.how)) ++ [10]:=by
    have h1:kdN ND x.ah=d.ag:=by unfold kdN;rw [hd]
    have h2:nmN (az S.ae) x.lv=w:=by unfold nmN;rw [hw]
    rw [nY,h1,h2];all_goals rfl
   have bA:=GL (ND:=ND) (af:=az S.ae) (r:=x);have dx:=vv (ND:=ND) (af:=az S.ae) hx;have zP:=hsT (e + 1);have hnn:fy ND (az S.ae) L (e + 1) ≠ []:=by rw [dx];simp [bA]
   clear NC L8;obtain ⟨p,nd,l,h⟩:=x;simp only at hf hd cS hw zH hh hhl gP N7;generalize lh p=PT at hf gP N7;generalize Ah h=HT at hh hhl N7;obtain ⟨ag,aO,lo,hi,most,af,es⟩:=d;simp only at N7 hk gl;generalize qC ag=KT at hk gl N7;rw [N7] at dx;refine iX (pP hx) ?_;refine cP VO hf ?_;refine br ?_ ?_<;>intro c
   ·have c:PT=[]:=by grind
    rw [ap c] at dx;refine cP oE cS ?_;refine ki (fun i=>Nat.beq i 19) mo (by decide +kernel) ?_;refine ⟨by (simp only [bQ,dg,List.length_cons,List.length_nil];omega),?_⟩;refine cD KJ hk ?_;refine ⟨by (simp only [bQ,dg,List.length_cons,List.length_nil];omega),?_⟩;refine ⟨by (simp only [bQ,dg,List.length_cons,List.length_nil];omega),?_⟩;refine cD tJ ir ?_;refine cD KI zH ?_;refine ⟨by (simp only [bQ,dg,List.length_cons,List.length_nil];omega),?_⟩;refine ⟨by (simp only [bQ,dg,List.length_cons,List.length_nil];omega),?_⟩;refine cD KK hh ?_;refine ⟨by (simp only [bQ,dg,List.length_cons,List.length_nil];omega),?_⟩;refine ⟨by (simp only [bQ,dg,List.length_cons,List.length_nil];omega),?_⟩;refine kO rfl (mE rfl (fy ND (az S.ae) L (e + 1)) (l:=fy ND (az S.ae) L e) (kt:=0) (by rw [dx];simp [tx]) (.head _) rfl (.inr rfl) (.inr ⟨rfl,Ry,rfl,rfl⟩) (by (simp only [bQ,dg,List.length_cons,List.length_nil];omega)) (by omega) rfl ?_);exact rE ⟨_,by omega,e + 1,.inr ⟨hnn,rfl⟩,by omega,rfl⟩ (bz (cJ (aG aq (by omega))))
   ·have c:¬ PT=[]:=fun h=>by grind
    rw [aj c] at dx;refine cP oE cS ?_;refine ki (fun i=>Nat.beq i 19) mo (by decide +kernel) ?_;refine ⟨by (simp only [bQ,dg,List.length_cons,List.length_nil];omega),?_⟩;refine cD KJ hk ?_;refine ⟨by (simp only [bQ,dg,List.length_cons,List.length_nil];omega),?_⟩;refine ⟨by (simp only [bQ,dg,List.length_cons,List.length_nil];omega),?_⟩;refine cD tJ ir ?_;refine cD KI zH ?_;refine ⟨by (simp only [bQ,dg,List.length_cons,List.length_nil];omega),?_⟩;refine ⟨by (simp only [bQ,dg,List.length_cons,List.length_nil];omega),?_⟩;refine cD KK hh ?_;refine ⟨by (simp only [bQ,dg,List.length_cons,List.length_nil];omega),?_⟩;refine ⟨by (simp only [bQ,dg,List.length_cons,List.length_nil];omega),?_⟩;refine kO rfl (mE rfl (fy ND (az S.ae) L (e + 1)) (l:=fy ND (az S.ae) L e) (kt:=0) (by rw [dx];simp [tx]) (.head _) rfl (.inr rfl) (.inr ⟨rfl,Ry,rfl,rfl⟩) (by (simp only [bQ,dg,List.length_cons,List.length_nil];omega)) (by omega) rfl ?_);exact rE ⟨_,by omega,e + 1,.inr ⟨hnn,rfl⟩,by omega,rfl⟩ (bz (cJ (aG aq (by omega))))
  ·have hge:e=L.length:=sW cu hL;subst hge;refine LM rfl (l:=fy ND (az S.ae) L L.length) (kt:=0) (.head _) rfl Ry rfl rfl rfl rfl ?_;exact (rfl:_=_)
def pe:Sch:=⟨[⟨⟨#[97]⟩,0⟩,⟨⟨#[98]⟩,0⟩],[(⟨⟨#[97]⟩,0⟩,⟨⟨#[98]⟩,0⟩)],[],.mk (exH 1) .nil⟩
theorem N8:(lU pe).1=0:=by decide +kernel
theorem B7:dw pe=(0:Nat)/\0 < (bp pe).length:=by decide +kernel
theorem N9:D2 (bp pe) (az pe.ae) (mF (bp pe) (aH pe) pe.ae.length 0 0 3)=[46,32,98,111,111,108,32,97,32,115,101,101,110,10]:=by decide +kernel
theorem kr:EvP prog 31 [] (.v (.bool true)):=by
 have HD:pe.wt<=1099511627776:=by decide +kernel
 have hb:=(yD pe HD).mono (Ψ:=fun r _ _=>Jr pe r) fun _ _ _ h=>Bt HD h;refine eG 23 [.tmp 0] func31 rfl ntmps31 rfl fun _ _ _ _=>?_;refine dj aa0 rfl hb ax (fun r hr=>?_);rcases hr with ⟨hr,_⟩ | ⟨_,PC,hP,rfl⟩
 ·exact (hr N8).elim
 have ht:=Ka hP 0 B7.1 B7.2 0 3;rw [N9] at ht;refine cP en85 ht ?_;exact (rfl:_=_)
end Go.Proofs.YtgjagnmeonoehaaGreat
namespace Go.Proofs.YtgjagnmeonoehaaGreat
namespace Dv
open Go Go.RowKit
section
variable {X:Ctx} {st:St} {k:List It} {E:En} {a:Act} {w:World} {ops:Array Oper} {C:World->Prop} {Q:Act->World->Prop} {W:Nat->Bool} {r:List Nat}
theorem vw {o1 o2:Oper} {i1 i2 d1 d2 kt t ty et e iT m td nn:Nat} {bb:Bool} {zz:List Value} {z:Int} {kd:IntKind} {es:List (List DV)} {cs:List DV} {s ix:Operand} {d':DV}
  (hR:Rel X E st a w) (g1:ops[i1]? = some o1) (g2:ops[i2]? = some o2) (h1:o1.op = .indexAddr t s ix/\o1.dst=some d1/\o1.guard=none) (h2:o2.op = .load ty (.tmp d1)/\o2.dst=some d2/\o2.guard=none)
  (ta:eJ X.nt st.sl (some d1)=true) (Tm:eJ X.nt ((d1,⟨[],.pt [] 0⟩) :: st.sl) (some d2)=true)
  (hs:rv st [] s=some (.sl 0 es (some kt))) (hi:rv st [] ix=some (.v (.int kd z))) (hT:X.T.find t=some ⟨nn,bb,.sl et e iT,zz⟩) (hq:st.tk[kt]? = some ⟨m,td,e,some cs⟩) (iO:es.length=m) (hz:0<=z/\z < m)
  (hl:cellsT X.T ty cs (z.toNat * e)=some d') (hC:∀ w',C w' -> w'=w) (XR:C w)
  (hk:∀ a',Rel X E ⟨(d2,⟨[],d'⟩) :: (d1,⟨[],.pt [] 0⟩) :: st.sl,st.bx,st.tk⟩ a' w->runT X.P ops W C Q r a' w):runT X.P ops W C Q (i1 :: i2 :: r) a w:=by
 have dK:=hR.rl;have e2:=ch (aX dK hi);obtain ⟨g,cap,cur,e1,ke,hy,hw0,s7,fU,Hz,zS,hcm,hgb,hgc⟩:=wz hR (aX dK hs) hq iO (by omega);have Tx:isE o1.op=false:=by rw [h1.1];all_goals rfl
 have hL1:isL o1.op=false:=by rw [h1.1];all_goals rfl
 have hE2:isE o2.op=false:=by rw [h2.1];all_goals rfl
 have hr1:Rel X E ⟨(d1,⟨[],.pt [] 0⟩) :: st.sl,st.bx,st.tk⟩ (a.put (some d1) (.pointer (some ⟨g,z.toNat * e,none⟩))) w:=bi hR ta (.pt [] 0) _ (by unfold Rv;exact ⟨g,z.toNat * e,rfl,by simp only [RvAt]⟩)
 have Lb:(a.put (some d1) (.pointer (some ⟨g,z.toNat * e,none⟩))).eval (.tmp d1) = .pointer (some ⟨g,z.toNat * e,none⟩):=by
  simp only [eJ,bc,Nat.blt_eq] at ta;simp [Act.eval,Act.put,hR.sz,ta.1]
 simp only [runT,g1,Tx,Bool.false_eq_true,if_false];refine ⟨.pointer (some ⟨g,z.toNat * e,none⟩),.inl ⟨dB h1.2.2,fun w9 _=>DE h1.1 e1 e2 hT hz w9⟩,fun h9=>(by rw [hL1] at h9;cases h9),?_⟩;rw [h1.2.1];generalize a.put (some d1) (.pointer (some ⟨g,z.toNat * e,none⟩))=a1 at hr1 Lb;obtain ⟨v,hv,HG⟩:=kH X.hT Hz (b:=g) (p:=0) hl;have HG:=HG w fun j u hj=>by grind [cC]
 rw [Nat.zero_add] at HG;simp only [g2,hE2,Bool.false_eq_true,if_false];refine ⟨v,.inl ⟨dB h2.2.2,fun w9 h9=>?_⟩,fun _=>XR,?_⟩
 ·have vY:=hC w9 (h9 (by rw [h2.1];rfl));subst vY;simp only [execOp,h2.1,Lb,Sem.run_bind,Instr.loadAt,Instr.sureAddr,Sem.run_pure,Result.andThen_ok,HG]
 ·rw [h2.2.1];exact hk _ (bi hr1 Tm d' v (Rv.mono (Ext.Kv E) hv))
theorem vx {o1 o2:Oper} {i1 i2 d1 kt t ty et e iT m td nn:Nat} {bb:Bool} {zz:List Value} {z:Int} {kd:IntKind} {es:List (List DV)} {cs cs':List DV} {s ix x:Operand} {dv:DV}
  (hR:Rel X E st a w) (g1:ops[i1]? = some o1) (g2:ops[i2]? = some o2) (h1:o1.op = .indexAddr t s ix/\o1.dst=some d1/\o1.guard=none) (h2:o2.op = .store ty (.tmp d1) x/\o2.dst=none/\o2.guard=none)
  (ta:eJ X.nt st.sl (some d1)=true)
  (hs:rv st [] s=some (.sl 0 es (some kt))) (hi:rv st [] ix=some (.v (.int kd z))) (hx:rv ⟨(d1,⟨[],.pt [] 0⟩) :: st.sl,st.bx,st.tk⟩ [] x=some dv) (Yz:eraL dv.cells (fun l=>some l)=some cs') (TY:dv.cells.length=e) (he0:0 < e)
  (hT:X.T.find t=some ⟨nn,bb,.sl et e iT,zz⟩) (bW:X.T.sz ty=some e) (hq:st.tk[kt]? = some ⟨m,td,e,some cs⟩) (iO:es.length=m) (hz:0<=z/\z < m) (hW2:W i2=true)
  (hk:∀ a' E' w',Rel X E' ⟨(d1,⟨[],.pt [] 0⟩) :: st.sl,st.bx,st.tk.set kt ⟨m,td,e,some (cs.take (z.toNat * e) ++ cs' ++ cs.drop (z.toNat * e + e))⟩⟩ a' w' -> runT X.P ops W C Q r a' w')
  (aW:X.still=false:=by exact rfl):runT X.P ops W C Q (i1 :: i2 :: r) a w:=by
 have dK:=hR.rl;have e2:=ch (aX dK hi);have hv:=aX dK hs;obtain ⟨g,cap,cur,e1,_⟩:=wz hR hv hq iO (by omega);have Tx:isE o1.op=false:=by rw [h1.1];all_goals rfl
 have hL1:isL o1.op=false:=by rw [h1.1];all_goals rfl
 have hE2:isE o2.op=true:=by rw [h2.1];all_goals rfl
 have hr1:Rel X E ⟨(d1,⟨[],.pt [] 0⟩) :: st.sl,st.bx,st.tk⟩ (a.put (some d1) (.pointer (some ⟨g,z.toNat * e,none⟩))) w:=bi hR ta (.pt [] 0) _ (by unfold Rv;exact ⟨g,z.toNat * e,rfl,by simp only [RvAt]⟩)
 have Lb:(a.put (some d1) (.pointer (some ⟨g,z.toNat * e,none⟩))).eval (.tmp d1) = .pointer (some ⟨g,z.toNat * e,none⟩):=by
  simp only [eJ,bc,Nat.blt_eq] at ta;simp [Act.eval,Act.put,hR.sz,ta.1]
 simp only [runT,g1,Tx,Bool.false_eq_true,if_false];refine ⟨.pointer (some ⟨g,z.toNat * e,none⟩),.inl ⟨dB h1.2.2,fun w9 _=>DE h1.1 e1 e2 hT hz w9⟩,fun h9=>(by rw [hL1] at h9;cases h9),?_⟩;rw [h1.2.1];generalize a.put (some d1) (.pointer (some ⟨g,z.toNat * e,none⟩))=a1 at hr1 Lb;have WI:=dB (ops:=ops) (a:=a1) h2.2.2;simp only [g2,hE2,if_true,ez,WI];obtain ⟨w2,E2,ct,oB⟩:=LO hr1 h2.1 Lb hv e1 hx Yz TY he0 bW hq iO hz aW;refine vZ ct ?_;rw [h2.2.1];exact ⟨(fun hw=>by rw [hW2] at hw;cases hw),hk _ _ _ oB⟩
theorem Vr {t k n ty e:Nat} {es ns:List (List DV)} (hq:st.tk[k]? = some ⟨n,ty,e,some ns.flatten⟩) (wb:∀ x∈ns,x.length=e) (fI:ns.length=n) (ht:get st.sl t=some ⟨[],.sl 0 es (some k)⟩) (iO:es.length=n) :
  Wk X st ⟨(t,⟨[],.sl e ns none⟩) :: st.sl,st.bx,st.tk.set k ⟨n,ty,e,none⟩⟩:=by
 intro E a w h;obtain ⟨E',hr,hx,n7⟩:=Ld h hq rfl wb fI;refine ⟨E',{ hr with tm:=?_ }⟩;intro i y hy;rw [dO] at hy;split at hy
 ·rename_i hti;subst hti;simp only [oI] at hy;subst hy;refine ⟨fun _=>?_,fun hn=>(hn (bq _)).elim⟩;obtain ⟨v,hv,E8⟩:=(h.tm t _ ht).1 (bq _);refine ⟨v,hv,?_⟩;have:=n7 es v iO E8;unfold Rv at this ⊢;obtain ⟨b,m,cap,g1,g2,g3,_⟩:=this;exact ⟨b,m,cap,g1,g2,g3,fun k hk=>by cases hk⟩
 ·exact hr.tm i y hy
end
end Dv
end Go.Proofs.YtgjagnmeonoehaaGreat
set_option maxRecDepth 100000
namespace Go.Proofs.YtgjagnmeonoehaaGreat
open Go Go.RowKit Dv Go.Proofs.Tryz
def rvK (p:List Stp) (e:Nat):List Stp:=(List.range p.length).map fun i=>(if i < e∨p.length - e<=i then p[p.length - 1 - i]? else p[i]?).getD ⟨0,0,ay⟩
theorem sY (p:List Stp) (e:Nat):(rvK p e).length=p.length:=by simp [rvK]
theorem wQ (p:List Stp) (e i:Nat) (hi:i < p.length):(rvK p e)[i]? = if i < e∨p.length - e<=i then p[p.length - 1 - i]? else p[i]?:=by grind [rvK]
theorem Sw (p:List Stp):rvK p 0=p:=by
 apply List.ext_getElem?
 grind [wQ,sY]
theorem Vs (p:List Stp) (e:Nat) (h:p.length<=2 * e + 1) (he:e<=p.length):rvK p e=p.reverse:=by
 apply List.ext_getElem?
 grind [wQ,sY]
theorem Sx (p:List Stp) (e:Nat) (h:2 * e + 1 < p.length) {x y:Stp} (hx:p[p.length - 1 - e]? = some x) (hy:p[e]? = some y):((rvK p e).set e x).set (p.length - 1 - e) y=rvK p (e + 1):=by
 apply List.ext_getElem?
 grind [wQ,sY]
theorem ZJ (p:List Stp) (e:Nat) (h:2 * e + 1 < p.length):(rvK p e)[e]? = p[e]? /\ (rvK p e)[p.length - 1 - e]? = p[p.length - 1 - e]?:=by grind [wQ]
theorem D3:∀ (L:List Stp) (i:Nat) (x:Stp),i < L.length->(aF L).flatten.take (i * 3) ++ eU x ++ (aF L).flatten.drop (i * 3 + 3)=(aF (L.set i x)).flatten
 | [],i,x,h=>by simp at h
 | y :: L,0,x,_=>by grind [eU,aF]
 | y :: L,i + 1,x,h=>by
  have:=D3 L i x (sU h)
  grind [eU,aF]
theorem Hm:∀ {L:List Stp} {k:Nat} {x:Stp},L[k]? = some x->((aF L).flatten.drop (k * 3)).take 3=eU x/\3<=((aF L).flatten.drop (k * 3)).length
 | [],_,_,h=>by simp at h
 | y :: L,0,x,h=>by grind [eU,aF]
 | y :: L,k + 1,x,h=>by
  have:=Hm (L:=L) (k:=k) (x:=x) (sU h)
  grind [eU,aF]
theorem B8 {L:List Stp} {k:Nat} {x:Stp} (h:L[k]? = some x):cellsT tt 141 (aF L).flatten ((k:Int).toNat * 3)=some (.agg (eU x)):=by
 have hf:∃ a b,tt.find 141=some ⟨3,true,a,b⟩:=⟨_,_,rfl⟩;obtain ⟨a,b,hf⟩:=hf;unfold cellsT;rw [hf];simp only;rw [rD,eH,(Hm h).1];rfl
abbrev ZK (n:Nat) (cs:List DV) (i:Nat) (j:Nat):St:=⟨[(0,⟨[],.sl 0 (List.replicate n []) (some 0)⟩),au 2 i,au 3 j],[],[⟨n,141,3,some cs⟩]⟩
theorem D4 (p:List Stp) (bA:p ≠ []) (hl:p.length<=1099511627776):Ev prog 153 [.sl 0 (List.replicate p.length []) (some 0)] [] [⟨p.length,141,3,some (aF p).flatten⟩] (fun _ _ tk=>tk=[⟨p.length,141,3,some (aF p.reverse).flatten⟩]):=by
 have jk:0 < p.length:=List.length_pos_iff.2 bA;have vH:(List.replicate p.length ([]:List DV)).length=p.length:=List.length_replicate;refine eG 28 [] func153 rfl ntmps153 rfl fun _ _ _ _=>?_
 have hj:IntKind.i64.wrap ((p.length:Int) - 1)=((p.length - 1:Nat):Int):=by
  rw [wrap64 (by omega) (by omega)];omega
 have jL:IntKind.i64.wrap (((List.replicate p.length ([]:List DV)).length:Int) - 1)=((p.length - 1:Nat):Int):=by rw [vH];exact hj
 refine aY (fun t st=>∃ (e:Nat) (cs:List DV),st=ZK p.length cs e (p.length - 1 - e)/\cs=(aF (rvK p e)).flatten/\2 * e<=p.length/\t=p.length - 2 * e) p.length (ZK p.length (aF p).flatten 0 (p.length - 1)) (bz (cJ jL)) ⟨0,_,rfl,by rw [Sw],by omega,by omega⟩ ?_;rintro t st ⟨e,cs,rfl,hcs,he,rfl⟩;refine br ?_ ?_<;>intro IQ
 rotate_left
 ·have hge:p.length<=2 * e + 1:=by have:=of_decide_eq_false IQ;omega
  rw [Vs p e hge (by omega)] at hcs;subst hcs;exact ⟨.tup [],[],ax,rfl,rfl⟩
 have aq:2 * e + 1 < p.length:=by have:=of_decide_eq_true IQ;omega
 obtain ⟨hA,hB⟩:=ZJ p e aq;obtain ⟨x,hx⟩:∃ x,p[p.length - 1 - e]? = some x:=⟨_,gE (by omega)⟩;obtain ⟨y,hy⟩:∃ y,p[e]? = some y:=⟨_,gE (by omega)⟩;have hsuc:=Sx p e aq hx hy;rw [hx] at hB;rw [hy] at hA;have hcx:=B8 hB;have hcy:=B8 hA;have Hu:=D3 (rvK p e) e x (by rw [sY];omega);have xc:=D3 ((rvK p e).set e x) (p.length - 1 - e) y (by rw [List.length_set,sY];omega);rw [hsuc] at xc;rw [<- hcs] at hcx hcy Hu;obtain ⟨xk,xn,xs⟩:=x;obtain ⟨yk,yn,ys⟩:=y;intro E a w hr;have lZ:=jK hr;refine jH (C:=fun w'=>w'=w.drew) (W:=fun i=>Nat.beq i 13 || Nat.beq i 15) (Q:=fun a w=>kq _ _ .normal a w) mo (by decide +kernel) (fun _ _ h=>h) rfl ?_;show Go.Proofs.YtgjagnmeonoehaaGreat.Dv.runT _ _ _ _ _ [0,1,2,3,4,5,6,7,8,9,10,11,12,13,14,15] _ _;refine fv lZ rfl rfl rfl rfl rfl rfl (fun a0 h0=>?_);refine fv h0 rfl rfl rfl rfl rfl rfl (fun a1 h1=>?_);refine fv h1 rfl rfl rfl rfl rfl rfl (fun a2 h2=>?_);refine fv h2 rfl rfl rfl rfl rfl rfl (fun a3 h3=>?_);refine fv h3 rfl rfl rfl rfl rfl rfl (fun a4 h4=>?_);refine fv h4 rfl rfl rfl rfl rfl rfl (fun a5 h5=>?_);refine vw (kt:=0) h5 rfl rfl ⟨rfl,rfl,rfl⟩ ⟨rfl,rfl,rfl⟩ rfl rfl rfl rfl rfl rfl vH ⟨by omega,by omega⟩ hcx (fun _ h=>h) rfl (fun a7 h7=>?_);refine fv h7 rfl rfl rfl rfl rfl rfl (fun a8 h8=>?_);refine fv h8 rfl rfl rfl rfl rfl rfl (fun a9 h9=>?_);refine vw (kt:=0) h9 rfl rfl ⟨rfl,rfl,rfl⟩ ⟨rfl,rfl,rfl⟩ rfl rfl rfl rfl rfl rfl vH ⟨by omega,by omega⟩ hcy (fun _ h=>h) rfl (fun a11 h11=>?_);refine vx (kt:=0) h11 rfl rfl ⟨rfl,rfl,rfl⟩ ⟨rfl,rfl,rfl⟩ rfl rfl rfl rfl rfl rfl (Nat.succ_pos 2) rfl rfl rfl vH ⟨by omega,by omega⟩ rfl (fun a13 E13 w13 h13=>?_);refine vx (kt:=0) h13 rfl rfl ⟨rfl,rfl,rfl⟩ ⟨rfl,rfl,rfl⟩ rfl rfl rfl rfl rfl rfl (Nat.succ_pos 2) rfl rfl rfl vH ⟨by omega,by omega⟩ rfl (fun a15 E15 w15 h15=>?_);refine go_sound 4000 _ _ ?_ E15 a15 w15 h15
 have HE:IntKind.i64.wrap (((p.length - 1 - e:Nat):Int) - 1)=((p.length - 1 - (e + 1):Nat):Int):=by
  rw [wrap64 (by omega) (by omega)];omega
 have pk:IntKind.i64.wrap ((e:Int) + 1)=((e + 1:Nat):Int):=by
  rw [wrap64 (by omega) (by omega)];omega
 generalize Mp:cs.take (e * 3) ++ eU ⟨xk,xn,xs⟩ ++ cs.drop (e * 3 + 3)=c1 at Hu
 have oe:c1.take ((p.length - 1 - e) * 3) ++ eU ⟨yk,yn,ys⟩ ++ c1.drop ((p.length - 1 - e) * 3 + 3)=(aF (rvK p (e + 1))).flatten:=by
  rw [Hu];exact xc
 rw [<- Mp] at oe;exact ⟨ZK p.length ((cs.take (e * 3) ++ eU ⟨xk,xn,xs⟩ ++ cs.drop (e * 3 + 3)).take ((p.length - 1 - e) * 3) ++ eU ⟨yk,yn,ys⟩ ++ (cs.take (e * 3) ++ eU ⟨xk,xn,xs⟩ ++ cs.drop (e * 3 + 3)).drop ((p.length - 1 - e) * 3 + 3)) (e + 1) (p.length - 1 - (e + 1)),(bz (wB2 pk HE)),p.length - 2 * (e + 1),by omega,e + 1,_,rfl,oe,by omega,rfl⟩
def spB:List DV->Bool
 | [.v (.int .i32 _),.v (.int .i32 _)]=>true
 | _=>false
theorem Sy {cs:List DV} (h:spB cs=true):∃ a b:Int,cs=[.v (.int .i32 a),.v (.int .i32 b)]:=by
 unfold spB at h;split at h
 ·exact ⟨_,_,rfl⟩
 ·cases h
theorem aeS {es:List (List DV)} (h:es.all spB=true) {i:Nat} (hi:i < es.length):∃ a b:Int,es[i]? = some [.v (.int .i32 a),.v (.int .i32 b)]:=by
 rw [List.all_eq_true] at h;obtain ⟨a,b,Ig⟩:=Sy (h es[i] (List.getElem_mem hi))
 grind
def OB (z:Int):List DV->Bool
 | [.v (.int .i32 a),.v (.int .i32 b)]=>decide (a<=z) && decide (z<=b)
 | _=>false
def srtB:Int->List (List DV)->Bool
 | _,[]=>true
 | m,[.v (.int .i32 a),.v (.int .i32 b)] :: r=>decide (m < a) && decide (a<=b) && srtB b r
 | _,_=>false
theorem zI {m:Int} {x:List DV} {r:List (List DV)} (h:srtB m (x :: r)=true):∃ a b:Int,x=[.v (.int .i32 a),.v (.int .i32 b)]/\m < a/\a<=b/\srtB b r=true:=by
 unfold srtB at h
 grind
theorem wR:∀ {es:List (List DV)} {m:Int} (_:srtB m es=true) {i:Nat} {a b:Int} (_:es[i]? = some [.v (.int .i32 a),.v (.int .i32 b)]),m < a/\a<=b/\srtB b (es.drop (i + 1))=true
 | [],_,_,i,_,_,hi=>by simp at hi
 | x :: r,m,h,i,a,b,hi=>by
  obtain ⟨a0,b0,rfl,h1,h2,h3⟩:=zI h
  cases i with
  | zero=>grind
  | succ i=>
   obtain ⟨g1,g2,g3⟩:=wR h3 (i:=i) (sU hi);exact ⟨by omega,g2,g3⟩
theorem Sz {z:Int}:∀ {es:List (List DV)} {m:Int} (_:srtB m es=true) (_:z<=m),es.any (OB z)=false
 | [],_,_,_=>rfl
 | x :: r,m,h,hz=>by
  obtain ⟨a0,b0,rfl,h1,h2,h3⟩:=zI h;rw [List.any_cons,Sz h3 (by omega),Bool.or_false]
  grind [OB]
theorem ZL {z m:Int} {es:List (List DV)} (h:srtB m es=true) {i:Nat} {a b:Int} (hi:es[i]? = some [.v (.int .i32 a),.v (.int .i32 b)]) (hz:z < a):(es.drop i).any (OB z)=false:=by
 obtain ⟨g1,g2,g3⟩:=wR h hi;rw [drop_cons hi,List.any_cons,Sz g3 (by omega),Bool.or_false]
 grind [OB]
theorem SA {z:Int}:∀ {es:List (List DV)} {m:Int} (_:srtB m es=true) {i:Nat} {a b:Int} (_:es[i]? = some [.v (.int .i32 a),.v (.int .i32 b)]) (_:b < z),(es.take (i + 1)).any (OB z)=false
 | [],_,_,i,_,_,hi,_=>by simp at hi
 | x :: r,m,h,i,a,b,hi,hz=>by
  obtain ⟨a0,b0,rfl,h1,h2,h3⟩:=zI h
  cases i with
  | zero=>grind [OB]
  | succ i=>
   have hi:r[i]? = some [.v (.int .i32 a),.v (.int .i32 b)]:=sU hi;have g1:=(wR h3 hi).1;have g2:=(wR h3 hi).2.1;rw [List.take_succ_cons,List.any_cons,SA h3 hi hz,Bool.or_false]
   grind [OB]
theorem Vt {es:List (List DV)} {z a b:Int} {i:Nat} (hi:es[i]? = some [.v (.int .i32 a),.v (.int .i32 b)]) (h1:a<=z) (h2:z<=b):es.any (OB z)=true:=
 List.any_eq_true.2 ⟨_,mG hi,by simp only [OB,bc,decide_eq_true_iff];omega⟩
def aeT (d:DV) (_:List (List DV)) (_:List TkE):Prop:=∃ es:List (List DV),d = .sl 2 es none/\(Nat.ble es.length 1000 && es.all spB)=true
set_option maxHeartbeats 4000000 in
theorem SB:Ev prog 357 [] [] [] aeT:=by
 refine eG 118 [.tmp 0] func357 rfl ntmps357 rfl fun _ _ _ _=>?_;exact ⟨_,ax,_,rfl,rfl⟩
set_option maxHeartbeats 4000000 in
theorem SD:Ev prog 358 [] [] [] aeT:=by
 refine eG 84 [.tmp 0] func358 rfl ntmps358 rfl fun _ _ _ _=>?_;exact ⟨_,ax,_,rfl,rfl⟩
abbrev ZM (es:List (List DV)) (z:Int) (lo hi:Nat):St:=⟨[aM 0 2 es,(1,⟨[],.v (.int .i32 z)⟩),au 5 lo,au 6 hi],[],[]⟩
theorem L9 (es:List (List DV)) (z:Int) (hl:es.length<=1000) (hs:es.all spB=true):Ev prog 356 [.sl 2 es none,.v (.int .i32 z)] [] [] (fun d _ _=>∃ b:Bool,d = .v (.bool b)/\∀ m,srtB m es=true->b=es.any (OB z)):=by
 refine eG 38 [.tmp 4] func356 rfl ntmps356 rfl fun _ _ _ _=>?_;refine lI (fun j st=>∃ lo hi:Nat,st=ZM es z lo hi/\lo<=hi/\hi<=es.length/\(∀ m,srtB m es=true->(es.take lo).any (OB z)=false/\(es.drop hi).any (OB z)=false)/\j=hi - lo) ⟨0,es.length,rfl,by omega,by omega,fun _ _=>⟨rfl,by rw [List.drop_length];rfl⟩,rfl⟩ (bz lj) ?_;rintro j st ⟨lo,hi,rfl,h1,h2,hiv,rfl⟩;refine br ?_ ?_<;>intro hL
 rotate_left
 ·have hge:lo=hi:=by have:=of_decide_eq_false hL;omega
  refine ⟨_,rfl,fun m hm=>?_⟩;obtain ⟨g1,g2⟩:=hiv m hm;rw [<- hge] at g2;rw [<- List.take_append_drop lo es,List.any_append,g1,g2];all_goals rfl
 have aq:lo < hi:=by have:=of_decide_eq_true hL;omega
 have hm:IntKind.i64.wrap ((lo:Int) + IntKind.i64.wrap ((IntKind.i64.wrap ((hi:Int) - lo)).tdiv 2))=((lo + (hi - lo) / 2:Nat):Int):=by grind [wrap64]
 obtain ⟨a,b,Ig⟩:=aeS hs (i:=lo + (hi - lo) / 2) (by omega);refine ⟨⟨rfl,by decide⟩,?_⟩;refine ⟨_,⟨by rw [hm];omega,by rw [hm,eH];exact Ig⟩,?_⟩;refine br ?_ ?_<;>intro c
 ·exact ⟨ZM es z lo (lo + (hi - lo) / 2),(bz (cJ hm)),lo + (hi - lo) / 2 - lo,by omega,_,_,rfl,by omega,by omega,fun m hm=>⟨(hiv m hm).1,ZL hm Ig (sU c)⟩,rfl⟩
 ·refine ⟨_,⟨by rw [hm];omega,by rw [hm,eH];exact Ig⟩,?_⟩;have c0:=c;refine br ?_ ?_<;>intro c
  ·have HS:IntKind.i64.wrap (IntKind.i64.wrap ((lo:Int) + IntKind.i64.wrap ((IntKind.i64.wrap ((hi:Int) - lo)).tdiv 2)) + 1)=((lo + (hi - lo) / 2 + 1:Nat):Int):=by
    rw [hm,wrap64 (by omega) (by omega)];omega
   exact ⟨ZM es z (lo + (hi - lo) / 2 + 1) hi,(bz (cJ HS)),hi - (lo + (hi - lo) / 2 + 1),by omega,_,_,rfl,by omega,by omega,fun m hm=>⟨SA hm Ig (sU c),(hiv m hm).2⟩,rfl⟩
  ·exact ⟨_,rfl,fun _ _=>(Vt Ig (sU c0) (sU c)).symm⟩
theorem Hn (z:Int):Ev prog 339 [.v (.int .i32 z)] [] [] (fun d _ _=>∃ b:Bool,d = .v (.bool b)):=by
 refine eG 6 [.tmp 2] func339 rfl ntmps339 rfl fun _ _ _ _=>?_;refine dj acb rfl SB ax (fun q hq=>?_);obtain ⟨es,rfl,he⟩:=hq;rw [bc,Nat.ble_eq] at he;refine dj Wj rfl (L9 es z he.1 he.2) ax (fun q hq=>?_);obtain ⟨b,rfl,_⟩:=hq;exact ⟨_,rfl⟩
theorem Ho (z:Int):Ev prog 340 [.v (.int .i32 z)] [] [] (fun d _ _=>∃ b:Bool,d = .v (.bool b)):=by
 refine eG 6 [.tmp 2] func340 rfl ntmps340 rfl fun _ _ _ _=>?_;refine dj acd rfl SD ax (fun q hq=>?_);obtain ⟨es,rfl,he⟩:=hq;rw [bc,Nat.ble_eq] at he;refine dj Wj rfl (L9 es z he.1 he.2) ax (fun q hq=>?_);obtain ⟨b,rfl,_⟩:=hq;exact ⟨_,rfl⟩
theorem Oa (z:Int):Ev prog 309 [.v (.int .i32 z)] [] [] (fun d _ _=>∃ n:Int,d = .v (.int .i64 n)):=by
 refine eG 9 [.tmp 2] func309 rfl ntmps309 rfl fun _ _ _ _=>?_;refine dj ab8 rfl (Hn z) ax (fun q hq=>?_);obtain ⟨b,rfl⟩:=hq
 cases b with
 | true=>exact ⟨_,rfl⟩
 | false=>
  refine dj ab9 rfl (Ho z) ax (fun q hq=>?_);obtain ⟨b,rfl⟩:=hq
  cases b with
  | true=>exact ⟨_,rfl⟩
  | false=>exact ⟨_,rfl⟩
theorem SE (s:ByteArray) (hs:s.size<=1099511627776):EvP prog 308 [.v (.string s),.v (.int .i64 (s.size:Nat))] (.tup [.v (.int .i32 0),.v (.int .i64 0),.v (.bool false)]):=by
 refine eG 60 [.tmp 4,.tmp 5,.tmp 6] func308 rfl ntmps308 rfl fun _ _ _ _=>?_;refine br (fun _=>?_) (fun c=>absurd c (by simp [aw]));exact ⟨_,ax,rfl⟩
theorem B9 (s:ByteArray) (aO:Nat) (hs:s.size<=1099511627776) (h:aO <= s.size):Ev prog 260 [.v (.string s),.v (.int .i64 aO)] [] [] (fun d _ _=>∃ c:Int,d = .tup [.v (.int .i64 c),.v (.int .i64 (Aj ((tx s).drop aO):Nat))]):=by
 cases hd:(tx s).drop aO with
 | nil=>
  have he:aO=s.size:=by
   have:=congrArg List.length hd;rw [List.length_drop,nu,List.length_nil] at this;omega
  subst he;refine eG 24 [.tmp 4,.tmp 5] func260 rfl ntmps260 rfl fun _ _ _ _=>?_;refine cP Wi (SE s hs) ?_;exact ⟨.tup [.v (.int .i64 0),.v (.int .i64 ((0:Nat):Int))],ax,_,rfl⟩
 | cons c r=>
  have hu:=NN s aO hs c r hd;have O5:Aj (c :: r)=if okU (c :: r)=true then cx c.toNat else 1:=rfl
  rw [O5];generalize okU (c :: r)=ok at hu ⊢;refine eG 24 [.tmp 4,.tmp 5] func260 rfl ntmps260 rfl fun _ _ _ _=>?_;refine dj Wi rfl hu ax (fun q hq=>?_);obtain ⟨z,n,rfl,hn,hp⟩:=hq
  cases ok with
  | true=>
   have:=(hn rfl).1;subst this;refine dj ab1 rfl (Oa z) ax (fun q hq=>?_);obtain ⟨m,rfl⟩:=hq;exact ⟨.tup [.v (.int .i64 m),.v (.int .i64 (cx c.toNat:Nat))],ax,_,rfl⟩
  | false=>
   refine br (fun _=>?_) (fun g=>absurd g (by simp;omega));exact ⟨.tup [.v (.int .i64 1),.v (.int .i64 ((1:Nat):Int))],ax,_,rfl⟩
abbrev aeU (a b:ByteArray) (aO:Nat) (m:Int) (e:Nat):St:=⟨[(0,⟨[],.v (.string a)⟩),(1,⟨[],.v (.string b)⟩),au 7 aO,au 12 m,au 13 e],[],[]⟩
theorem Kc (a b:ByteArray) (ha:a.size<=1099511627776) (hb:b.size<=1099511627776) (m:Int) (hm:m<=9223372036854775807):EvP prog 266 [.v (.string a),.v (.string b),.v (.int .i64 m)] (.v (.bool (headsL m.toNat (tx a) (tx b)))):=by
 refine eG 49 [.tmp 6] func266 rfl ntmps266 rfl fun _ _ _ _=>?_;refine lI (fun j st=>∃ e aO:Nat,st=aeU a b aO m e/\(e:Int)<=max m 0/\aO <= a.size/\aO <= b.size/\headsL (m.toNat - e) ((tx a).drop aO) ((tx b).drop aO)=headsL m.toNat (tx a) (tx b)/\j=m.toNat - e) ⟨0,0,rfl,by omega,by omega,by omega,rfl,rfl⟩ (bz lj) ?_;rintro j st ⟨e,aO,rfl,he,h1,h2,hE,rfl⟩;refine br ?_ ?_<;>intro hL
 rotate_left
 ·have hge:m.toNat - e=0:=by have:=of_decide_eq_false hL;omega
  rw [hge] at hE;rw [<- hE];exact (rfl:_=_)
 have aq:(e:Int) < m:=of_decide_eq_true hL;obtain ⟨k,hk⟩:∃ k,m.toNat - e=k + 1:=⟨m.toNat - e - 1,by omega⟩;have rU:headsL (k + 1) ((tx a).drop aO) ((tx b).drop aO)=(decide (Aj ((tx a).drop aO)=Aj ((tx b).drop aO)) && decide (((tx a).drop aO).take (Aj ((tx a).drop aO))=((tx b).drop aO).take (Aj ((tx b).drop aO))) && headsL k (((tx a).drop aO).drop (Aj ((tx a).drop aO))) (((tx b).drop aO).drop (Aj ((tx b).drop aO)))):=rfl;rw [hk,rU] at hE;have hua:=B9 a aO ha h1;have hub:=B9 b aO hb h2
 have ZQ:Aj ((tx a).drop aO) + aO <= a.size:=by
  have:=nu a;by_cases c:(tx a).drop aO=[]
  ·rw [c];show 0 + aO <= _;omega
  ·grind [LV]
 have PG:Aj ((tx b).drop aO) + aO <= b.size:=by
  have:=nu b;by_cases c:(tx b).drop aO=[]
  ·rw [c];show 0 + aO <= _;omega
  ·grind [LV]
 refine dj Wc rfl hua ax (fun q hq=>?_);obtain ⟨z1,rfl⟩:=hq;refine dj Wc rfl hub ax (fun q hq=>?_);obtain ⟨z2,rfl⟩:=hq;generalize Aj ((tx a).drop aO)=n at hE ZQ ⊢;generalize Aj ((tx b).drop aO)=m' at hE PG ⊢;refine dI ?_;refine br ?_ ?_<;>intro c
 ·have c:n=m':=by grind
  subst c;rw [decide_eq_true rfl,Bool.true_and] at hE
  have hw:IntKind.i64.wrap ((aO:Int) + n)=((aO + n:Nat):Int):=by
   rw [wrap64 (by omega) (by omega)];omega
  have he1:IntKind.i64.wrap ((e:Int) + 1)=((e + 1:Nat):Int):=by
   rw [wrap64 (by omega) (by omega)];omega
  have hx:∀ s:ByteArray,s.extract aO (IntKind.i64.wrap ((aO:Int) + n)).toNat=ba (((tx s).drop aO).take n):=fun s=>CN (by
   rw [hw,eH]
   simp [tx])
  refine ⟨⟨by omega,by rw [hw];omega,by rw [hw];omega⟩,?_⟩;refine ⟨⟨by omega,by rw [hw];omega,by rw [hw];omega⟩,?_⟩;refine br ?_ ?_<;>intro c
  ·have c:¬ ((tx a).drop aO).take n=((tx b).drop aO).take n:=by grind [pickB]
   rw [decide_eq_false c] at hE;rw [<- hE];exact (rfl:_=_)
  ·have c:((tx a).drop aO).take n=((tx b).drop aO).take n:=by grind [pickB]
   rw [decide_eq_true c,Bool.true_and,List.drop_drop,List.drop_drop] at hE;exact rE ⟨_,by omega,e + 1,aO + n,rfl,by omega,by omega,by omega,by rw [show m.toNat - (e + 1)=k by omega];exact hE,rfl⟩ (bz (wB2 hw he1))
 ·have c:¬ n=m':=by grind
  rw [decide_eq_false c] at hE;rw [<- hE];exact (rfl:_=_)
theorem Hp (a b u:Int) (ha : -9223372036854775808<=a/\a<=9223372036854775807) (hb : -9223372036854775808<=b/\b<=9223372036854775807) (hu : -9223372036854775808<=u/\u<=9223372036854775807) :
  EvP prog 265 [.v (.int .i64 a),.v (.int .i64 b),.v (.int .i64 u)] (.v (.bool (decide (jD a u=jD b u)))):=by
 have h1:=zl a u ha hu;have h2:=zl b u hb hu;unfold RJ at h1 h2;generalize jD a u=x at h1 ⊢;generalize jD b u=y at h2 ⊢;obtain ⟨x1,x2⟩:=x;obtain ⟨y1,y2⟩:=y;refine eG 31 [.tmp 6] func265 rfl ntmps265 rfl fun _ _ _ _=>?_;refine cP V2 h1 ?_;refine cP V2 h2 ?_;refine (congrArg (fun z=>DV.v (.bool z)) ?_:_=_);simp only [av,Prod.mk.injEq,Bool.decide_and];cases x2<;>cases y2<;>rfl
mutual
def rngW:Val->Prop
 | .mk k n _ ks=>K0 k/\K0 n/\rngWs ks
def rngWs:List Val->Prop
 | []=>True
 | v :: r=>rngW v/\rngWs r
end
theorem mN:∀ {l:List Val} {x:Val},rngWs l->x∈l->rngW x
 | v :: r,x,h,hm=>by
  rw [rngWs] at h;rcases dN hm with rfl | hm
  ·exact h.1
  ·exact mN h.2 hm
theorem SF {v:Val} (h:rngW v) : -9223372036854775808<=v.n/\v.n<=9223372036854775807:=by
 obtain ⟨k,n,s,ks⟩:=v;rw [rngW] at h;exact h.2.1
theorem Ma {v:Val} (h:rngW v):rngWs v.ks:=by
 obtain ⟨k,n,s,ks⟩:=v;rw [rngW] at h;exact h.2.2
namespace Dv
end Dv
mutual
theorem Ca:∀ (t:Ty),rngT t->∀ u∈flatT t,rngT u
 | .mk h ps,hr,u,hu=>by
  rw [flatT] at hu;split at hu
  ·cases hu
  ·rcases dN hu with rfl | hu
   ·exact hr
   ·rw [rngT] at hr;exact Cb ps hr.2.2.2 u hu
theorem Cb:∀ (ps:Pts),rngP ps->∀ u∈flatP ps,rngT u
 | .nil,_,u,hu=>by cases hu
 | .cons p v r,hr,u,hu=>by
  rw [flatP] at hu;rw [rngP] at hr;rcases List.mem_append.1 hu with hu | hu
  ·split at hu
   ·cases hu
   ·exact Ca v hr.2.2.1 u hu
  ·exact Cb r hr.2.2.2 u hu
end
theorem Hq {lev:List Wd->Int} {s:Sch}:∀ (ps:Pts) (k:Nat),rngP ps->∀ e∈edsP lev s ps k,K0 e.cn
 | .nil,_,_,e,he=>by cases he
 | .cons p v r,k,hr,e,he=>by
  rw [edsP] at he;rw [rngP] at hr;rcases dN he with rfl | he
  ·exact hr.2.1
  ·exact Hq r _ hr.2.2.2 e he
def Ob (n:Nd):Prop:=K0 n.lo/\K0 n.hi/\∀ e∈n.ai,K0 e.cn
theorem Kd {S:Sch} (hr:TP S) {n:Nd} (h:n∈bp S):Ob n:=by
 rw [jA] at h;obtain ⟨t,ht,u,hu,k,rfl⟩:=yS h
 have h1:rngT t:=by
  rcases List.mem_append.1 ht with h | h
  ·obtain ⟨x,hx,rfl⟩:=List.mem_map.1 h;exact hr.1 x hx
  ·simp only [List.mem_singleton] at h;subst h;exact hr.2
 have h2:=Ca t h1 u hu;obtain ⟨uh,us⟩:=u;rw [rngT] at h2;exact ⟨h2.1,h2.2.1,Hq us _ h2.2.2.2⟩
theorem Vu {d:Nd} {z:Int} {j:Nat} {e:Ed} (h:Za d (.mk 0 z ay []) j=e.to) (h0:0<=e.to) (c:d.ag=8):0<=z/\z < d.ai.length:=by
 unfold Za at h;rw [aj (by omega),aj (by omega),aj (by omega),ap c] at h;split at h
 ·rename_i g;exact ⟨g.2.1,g.2.2⟩
 ·omega
def dfD:Option (List Stp)->DV
 | some p=>.tup [.sl 3 (aF p) none,.v (.bool true)]
 | none=>.tup [.v (.slice none 0 0),.v (.bool false)]
section
variable (lv:List Wd) (f:Nat->Nat->Bool) (ND:List Nd) (rt:Nat) (hL:dA f lv.length) (hn:lv.length<=32) (aZ:∀ n∈ND,cf lv.length ND.length n) (bW:∀ n∈ND,n.ai.length<=1099511627776) (HH:∀ n∈ND,Ob n)
include hL hn aZ bW HH
def dfF (ND:List Nd) (f:Nat->Nat->Bool) (n rt:Nat) (o:Int) (a b:Val):Option (List Stp):=if 0<=o/\o < n/\fitV ND a rt=true/\fitV ND b rt=true then diffV ND f n o.toNat a b rt (dC f n) else none
def akF (ND:List Nd) (f:Nat->Nat->Bool) (n rt:Nat) (o:Int) (a b:Val):Bool:=decide (0<=o/\o < n) && fitV ND a rt && fitV ND b rt && (diffV ND f n o.toNat a b rt (dC f n)).isNone
end
abbrev eyD (PC LC:List DV) (obs:Nat):List DV:=[.pt PC 0,.pt LC 0,.v (.int .i64 obs)]
section
variable {n:Nat} {f:Nat->Nat->Bool} {af:List ByteArray} {LC:List DV} (hR:Js n f af LC) (PC:List DV)
include hR
theorem zJ (obs a:Nat) (ho:obs < n) (ha:a < n):EvP prog 222 [.agg (eyD PC LC obs),.v (.int .i64 a)] (.v (.bool (f a obs))):=by
 have hq:=hR.leq a obs;rw [yT ha ho] at hq;refine eG 11 [.tmp 4] func222 rfl ntmps222 rfl fun _ _ _ _=>?_;refine cP X8 hq ?_;exact (rfl:_=_)
theorem Ke {ND:List Nd} (obs a:Nat) (ha:a < n) (d:Nd) (v:Val) (j:Nat) (e:Ed) (h:fT d v.n j=some e) (hm:e∈d.ai) (hN:cf n ND.length d) (h5:5<=d.ag) (hz:d.ag=8->0<=v.n/\v.n < d.ai.length) (iO:d.ai.length<=1099511627776) :
  EvP prog 221 [.agg (eyD PC LC obs),.agg (j5 d),.agg (bg v),.v (.int .i64 j),.v (.int .i64 a)] (.tup [.agg (C4 e),.v (.int .i64 (uJ f n d e a:Nat))]):=by
 obtain ⟨_,⟨h2,Jj⟩,_⟩:=eV hN hm;have hj:=hR.join a e.label.toNat ha Jj;rw [<- h2] at hj;have hU:uJ f n d e a=if d.ag < 7 then a else lG f n a e.label.toNat:=rfl
 generalize uJ f n d e a=U at hU ⊢;have h8:=hN.k8;obtain ⟨ag,aO,lo,hi,most,Mb,es⟩:=d;obtain ⟨k,z,s,ks⟩:=v;simp only [Val.n] at h hz iO hU h5 h8;have kM:=bw es;unfold fT at h;simp only at h;have hd:∃ en eb ea et rb ew ln ti ru pS,e=⟨en,eb,ea,et,rb,ew,ln,ti,ru,pS⟩:=⟨_,_,_,_,_,_,_,_,_,_,rfl⟩;refine eG 42 [.cell 10 193,.tmp 11] func221 rfl ntmps221 rfl fun _ _ _ _=>?_;refine br ?_ ?_<;>intro c
 ·have c:ag=7:=sU c;rw [ap c] at h;rw [aj (by omega)] at hU;subst hU;have ll:=(gS h).1;obtain ⟨en,eb,ea,et,rb,ew,ln,ti,ru,pS,rfl⟩:=hd;refine dS ?_;refine iX (aS h) ?_;refine iX (aS h) ?_;refine cD qu hj ?_;exact ⟨_,ax,rfl⟩
 have c7:¬ ag=7:=sU c;rw [aj c7] at h;refine br ?_ ?_<;>intro c
 ·have c:ag=8:=sU c;rw [ap c] at h;have hz:=hz c;rw [aj (by omega)] at hU;subst hU;obtain ⟨en,eb,ea,et,rb,ew,ln,ti,ru,pS,rfl⟩:=hd;refine dS ?_;refine iX (aS h) ?_;refine iX (aS h) ?_;refine cD qu hj ?_;exact ⟨_,ax,rfl⟩
 have c8:¬ ag=8:=sU c;rw [aj c8] at h;rw [ap (by omega)] at hU;subst hU;obtain ⟨en,eb,ea,et,rb,ew,ln,ti,ru,pS,rfl⟩:=hd;refine iX (aS h) ?_;exact ⟨_,ax,rfl⟩
end
theorem astepP_spec (d:Nd) (v:Val) (j:Nat) (h5:5<=d.ag) (h8:d.ag<=8) (h7:d.ag=7->j < d.ai.length) (hz:d.ag=8->0<=v.n/\v.n < d.ai.length) :
  EvP prog 224 [.agg (j5 d),.agg (bg v),.v (.int .i64 j)] (.agg (eU (JT d v.n j))):=by
 have hS:JT d v.n j=if d.ag=5 then ⟨2,j,ay⟩ else if d.ag=6 then ⟨4,0,ay⟩ else if d.ag=7 then ⟨1,0,match d.ai[j]? with | some e=>e.name | none=>ay⟩ else ⟨5,0,match d.ai[v.n.toNat]? with | some e=>e.name | none=>ay⟩:=rfl
 generalize JT d v.n j=SZ at hS ⊢;obtain ⟨ag,aO,lo,hi,most,Mb,es⟩:=d;obtain ⟨k,z,s,ks⟩:=v;simp only [Val.n] at h5 h8 h7 hz hS;have kM:=bw es;refine eG 33 [.cell 6 141] func224 rfl ntmps224 rfl fun _ _ _ _=>?_;refine br ?_ ?_<;>intro c
 ·have c:ag=7:=sU c;subst c;have h7:=h7 rfl;obtain ⟨e,he⟩:∃ e,es[j]? = some e:=⟨_,gE h7⟩;rw [aj (by decide),aj (by decide),ap rfl,he] at hS;subst hS;refine iX (aS he) ?_;exact ⟨_,ax,rfl⟩
 have c7:¬ ag=7:=sU c;refine br ?_ ?_<;>intro c
 ·have c:ag=8:=sU c;subst c;have hz:=hz rfl;obtain ⟨e,he⟩:∃ e,es[z.toNat]? = some e:=⟨_,gE (by omega)⟩;rw [aj (by decide),aj (by decide),aj (by decide),he] at hS;subst hS;refine iX (aS he) ?_;exact ⟨_,ax,rfl⟩
 have c8:¬ ag=8:=sU c;refine br ?_ ?_<;>intro c
 ·have c:ag=5:=sU c;rw [ap c] at hS;subst hS;exact ⟨_,ax,rfl⟩
 have c5:¬ ag=5:=sU c;rw [aj c5,ap (by omega)] at hS;subst hS;exact ⟨_,ax,rfl⟩
theorem D5 (e:Ed) (x y:Val) (hx:rngW x) (hy:rngW y) (hwx:x.wt<=1099511627776) (hwy:y.wt<=1099511627776) (hc : -9223372036854775808<=e.cn/\e.cn<=9223372036854775807) :
  EvP prog 223 [.agg (C4 e),.agg (bg x),.agg (bg y)] (.v (.bool (nZ e x y))):=by
 have hf:=Hp x.n y.n e.cn (SF hx) (SF hy) hc
 have hS:nZ e x y=if e.ck=1/\x.k=2 then decide (jD x.n e.cn=jD y.n e.cn)
  else if e.ck=2/\x.k=3 then headsL e.cn.toNat (tx x.s) (tx y.s)
  else if e.ck=3/\x.k=5 then decide (x.ks.length=y.ks.length)
  else true:=rfl
 have bW:∀ v:Val,v.wt<=1099511627776->v.s.size<=1099511627776:=fun v hv=>by
  obtain ⟨k,n,s,ks⟩:=v;rw [Val.wt] at hv;show s.size<=_;omega
 have hh:=Kc x.s y.s (bW x hwx) (bW y hwy) e.cn hc.2;have hA:e.ck=1/\x.k=2->nZ e x y=decide (jD x.n e.cn=jD y.n e.cn):=fun h=>by rw [hS,ap h]
 have hB:e.ck=2/\x.k=3->nZ e x y=headsL e.cn.toNat (tx x.s) (tx y.s):=fun h=>by rw [hS,aj (by omega),ap h]
 have hC:e.ck=3/\x.k=5->nZ e x y=decide (x.ks.length=y.ks.length):=fun h=>by rw [hS,aj (by omega),aj (by omega),ap h]
 have hD:¬ (e.ck=1/\x.k=2)->¬ (e.ck=2/\x.k=3)->¬ (e.ck=3/\x.k=5)->nZ e x y=true:=fun h1 h2 h3=>by rw [hS,aj h1,aj h2,aj h3]
 clear hS;generalize nZ e x y=B at hA hB hC hD ⊢;obtain ⟨en,eb,ea,et,rb,ew,ln,ti,ru,pS⟩:=e;obtain ⟨xk,xn,xs,vQ⟩:=x;obtain ⟨yk,yn,ys,D6⟩:=y;simp only [Val.k,Val.n,Val.s,Val.ks] at hA hB hC hD hf hh;have Oz:=cA vQ;have hdy:=cA D6;refine eG 55 [.tmp 6] func223 rfl ntmps223 rfl fun _ _ _ _=>?_;refine br ?_ ?_<;>intro c
 ·have c:ln=1/\xk=2:=by simpa [av] using c
  rw [hA c];refine cP abQ hf ?_;exact (rfl:_=_)
 have c1:¬ (ln=1/\xk=2):=by simpa [av] using c
 refine br ?_ ?_<;>intro c
 ·have c:ln=2/\xk=3:=by simpa [av] using c
  rw [hB c];refine cP abR hh ?_;exact (rfl:_=_)
 have c2:¬ (ln=2/\xk=3):=by simpa [av] using c
 refine br ?_ ?_<;>intro c
 ·have c:ln=3/\xk=5:=by simpa [av] using c
  rw [hC c];refine (bP ?_:);simp only [Oz,hdy];exact decide_eq_decide.2 ⟨fun h=>by omega,fun h=>by omega⟩
 have c3:¬ (ln=3/\xk=5):=by simpa [av] using c
 rw [hD c1 c2 c3];exact (rfl:_=_)
def dfP (o:Option (List Stp)) (r:DV) (bO:List TkE):Prop:=match o with
 | none=>r = .tup [.v (.slice none 0 0),.v (.bool false)]/\bO=[]
 | some []=>r = .tup [.v (.slice none 0 0),.v (.bool true)]/\bO=[]
 | some (s :: p)=>r = .tup [.sl 0 (List.replicate (p.length + 1) []) (some 0),.v (.bool true)]/\bO=[⟨p.length + 1,141,3,some (aF (s :: p).reverse).flatten⟩]
abbrev adSt (PC LC:List DV) (obs a:Nat) (x y:Val) (d:Nd) (e:Nat):St:=
 ⟨[au 2 a,aE 5 0,aE 8 1,aE 9 2,aE 12 3,aM 49 4 (dVals x.ks),au 50 ((dVals x.ks).length),au 51 e],[eyD PC LC obs,bg x,bg y,j5 d],[]⟩
section
variable {ND:List Nd} {f:Nat->Nat->Bool} {L obs:Nat}
mutual
theorem uP:∀ (x y:Val) (i:Int) (a:Nat) (p:List Stp),diffV ND f L obs x y i a=some p->64 * p.length + 64<=x.wt
 | .mk k n s ks,.mk k' n' s' ks',i,a,p,h=>by
  rw [diffV] at h;rw [Val.wt];split at h
  ·cases h;simp;omega
  ·cases hd:fQ ND i with
   | none=>rw [hd] at h;cases h
   | some d=>
    rw [hd] at h;have:=zK ks ks' d n a 0 p h;omega
theorem zK:∀ (ks ls:List Val) (d:Nd) (z:Int) (a j:Nat) (p:List Stp),diffVs ND f L obs ks ls d z a j=some p->64 * p.length<=dL ks
 | [],[],_,_,_,_,p,h=>by rw [diffVs] at h;cases h;all_goals simp
 | [],_ :: _,_,_,_,_,p,h=>by rw [diffVs] at h;cases h;all_goals simp
 | _ :: _,[],_,_,_,_,p,h=>by rw [diffVs] at h;cases h;all_goals simp
 | x :: r,y :: t,d,z,a,j,p,h=>by
  have hw:=x.fk;rw [diffVs] at h;rw [dL]
  cases he:fT d z j with
  | none=>rw [he] at h;cases h
  | some e=>
   rw [he] at h;simp only at h;split at h
   ·rename_i q hq;cases h;rw [List.length_cons];split at hq
    ·have:=uP x y e.to _ q hq;omega
    all_goals grind
   ·have:=zK r t d z a (j + 1) p h;omega
end
end
theorem SG (s:Stp) (L:List Stp):(aF L.reverse).flatten ++ [eU s].flatten=(aF (s :: L).reverse).flatten:=by
 rw [List.reverse_cons];simp [aF]
set_option maxHeartbeats 2000000 in
theorem sZ {S:Sch} {ND:List Nd} {PC LC:List DV} (hP:dX S ND PC) (hR:Js S.ae.length (aH S) (az S.ae) LC) (S4:∀ n∈ND,Ob n) (bW:∀ n∈ND,n.ai.length<=1099511627776) (obs:Nat) (ho:obs < S.ae.length) :
  ∀ (k:Nat) (x:Val),x.wt<=k->x.wt<=1099511627776->rngW x->∀ (y:Val),y.wt<=1099511627776->rngW y->∀ (i:Int) (a:Nat),a < S.ae.length->fitV ND x i=true->fitV ND y i=true ->
   Tj prog 152 [.agg (eyD PC LC obs),.v (.int .i64 i),.v (.int .i64 a),.agg (bg x),.agg (bg y)] [] [] (fun r _ bO=>dfP (diffV ND (aH S) S.ae.length obs x y i a) r bO)
 | 0,x,h=>by have:=x.fk;omega
 | k + 1,x,h=>fun mO qh y vR hry i a ha Ze hfy=>by
  have ih:=sZ hP hR S4 bW obs ho k;have hL:=hR.ok;obtain ⟨d,hF⟩:=ij hP.ok Ze;obtain ⟨d',hF'⟩:=ij hP.ok hfy;have hdd:d'=d:=by have:=hF.ah;rw [hF'.ah] at this;cases this;rfl
  subst hdd;have Xm:=fun {m:Nat} {x:Val}=>DG (m:=m) (x:=x) hP.ok Ze hF;have Xn:=fun {m:Nat} {x:Val}=>DG (m:=m) (x:=x) hP.ok hfy hF';obtain ⟨h0,hg⟩:=fw hF.ah;obtain ⟨j,rfl⟩:∃ j:Nat,i=j:=⟨i.toNat,by omega⟩;have hg:ND[j]? = some d':=sU hg;have ll:=(gS hg).1;have xe:=mG hg;have hN:=hP.ok d' xe;have hdsz:=bW d' xe;have hdrn:=S4 d' xe;have cS:=hP.ah j d' hg;have Xa:=hF.leaf;have hnd:=hF.ah;obtain ⟨xk,xn,xs,vQ⟩:=x;obtain ⟨yk,yn,ys,D6⟩:=y;rw [Val.wt] at h mO vR;have ZN:=Ma qh;have ZO:=Ma hry;simp only [Val.ks,Val.n] at Xm Xn Xa ZN ZO;have zO:=iJ vQ;have hyl:=iJ D6;have Oz:=cA vQ;have hdy:=cA D6;by_cases hc:xn≠yn∨xs≠ys∨vQ.length≠D6.length
  ·have hD:diffV ND (aH S) S.ae.length obs (.mk xk xn xs vQ) (.mk yk yn ys D6) j a=some []:=by rw [diffV,ap hc]
   rw [hD];refine nf (s:=false) (bt:=[]) (mu:=[]) (hbt:=fun p hp=>by cases hp) (fr:=true) (P:=prog) tt nV 5000 115 [.tmp 10,.tmp 11] func152 rfl ntmps152 rfl (nL rfl) (fun _ _ _ _=>?_);refine br (fun _=>?_) (fun c=>?_)
   ·exact ⟨_,[],ax,rfl,rfl,rfl⟩
   ·grind [aw]
  ·have hD:diffV ND (aH S) S.ae.length obs (.mk xk xn xs vQ) (.mk yk yn ys D6) j a=diffVs ND (aH S) S.ae.length obs vQ D6 d' xn a 0:=by rw [diffV,aj hc,hnd]
   rw [hD];simp at hc;obtain ⟨rfl,rfl,tf⟩:=hc;obtain ⟨ag,aO,lo,hi,most,Mb,es⟩:=d';refine nf (s:=false) (bt:=[]) (mu:=[]) (hbt:=fun p hp=>by cases hp) (fr:=true) (P:=prog) tt nV 5000 115 [.tmp 10,.tmp 11] func152 rfl ntmps152 rfl (nL rfl) (fun _ _ _ _=>?_);refine br (fun c=>absurd c (by simp [aw,Oz,hdy,tf])) (fun _=>?_);refine cP oE cS ?_;refine lI (fun t st=>∃ e:Nat,st=adSt PC LC obs a (.mk xk xn xs vQ) (.mk yk xn xs D6) ⟨ag,aO,lo,hi,most,Mb,es⟩ e/\e<=vQ.length/\diffVs ND (aH S) S.ae.length obs (vQ.drop e) (D6.drop e) ⟨ag,aO,lo,hi,most,Mb,es⟩ xn a e=diffVs ND (aH S) S.ae.length obs vQ D6 ⟨ag,aO,lo,hi,most,Mb,es⟩ xn a 0/\t=vQ.length - e) ⟨0,rfl,by omega,rfl,rfl⟩ (bZ 4 qL lj) ?_;rintro t st ⟨e,rfl,he,hE,rfl⟩;refine br ?_ ?_<;>intro IQ
   ·have aq:e < vQ.length:=by simpa [Oz,Val.ks] using IQ
    obtain ⟨x,hx⟩:=gX aq;obtain ⟨y,hy⟩:∃ y,D6[e]? = some y:=⟨_,gE (by omega)⟩;have sH:=mG hx;have hmy:=mG hy;have hwx:=la sH;have hwy:=la hmy;obtain ⟨ed,hK⟩:=Xm hx;obtain ⟨Kf,hK2⟩:=Xn hy;have Hy:Kf=ed:=by have:=hK.fB;rw [hK2.fB] at this;cases this;rfl
    subst Hy;have h5:5<=ag:=by grind
    obtain ⟨mw,_⟩:=aef hN hK.mem hK.bare;have Gi:=Vu hK.to' mw;rw [List.drop_eq_getElem_cons aq,show vQ[e]=x from (gS hx).2,List.drop_eq_getElem_cons (show e < D6.length by omega),show D6[e]=y from (gS hy).2,diffVs,hK.fB] at hE;simp only at hE;have hU:=U0 hL hN hK.mem ha;have hSn:=U1 hL hN hK.mem ha;have bR:=Ke hR PC obs a ha ⟨ag,aO,lo,hi,most,Mb,es⟩ (.mk xk xn xs vQ) e Kf hK.fB hK.mem hN h5 Gi hdsz;have SH:=zJ hR PC obs (uJ (aH S) S.ae.length ⟨ag,aO,lo,hi,most,Mb,es⟩ Kf a) ho hU;have D7:=zJ hR PC obs (lG (aH S) S.ae.length a Kf.seen.toNat) ho hSn;have hcs:=D5 Kf x y (mN ZN sH) (mN ZO hmy) (by omega) (by omega) (hdrn.2.2 Kf hK.mem);have iS:=ih x (by omega) (by omega) (mN ZN sH) y (by omega) (mN ZO hmy) Kf.to (uJ (aH S) S.ae.length ⟨ag,aO,lo,hi,most,Mb,es⟩ Kf a) hU hK.fit hK2.fit
    have SI:=astepP_spec ⟨ag,aO,lo,hi,most,Mb,es⟩ (.mk xk xn xs vQ) e h5 hN.k8 (fun c7=>by
     have:=hK.fB;unfold fT at this;rw [ap c7] at this
     exact (gS this).1) Gi
    obtain ⟨_,_,h3,Ow⟩:=eV hN hK.mem;have hj:=hR.join a Kf.seen.toNat ha Ow;rw [<- h3] at hj;rw [UZ] at hE;have aeX:=fun i' a' p=>uP (ND:=ND) (f:=aH S) (L:=S.ae.length) (obs:=obs) x y i' a' p;generalize uJ (aH S) S.ae.length ⟨ag,aO,lo,hi,most,Mb,es⟩ Kf a=U at hU bR SH iS hE;generalize lG (aH S) S.ae.length a Kf.seen.toNat=SN at hj D7 hSn hE;rw [show JT ⟨ag,aO,lo,hi,most,Mb,es⟩ (Val.mk xk xn xs vQ).n e=JT ⟨ag,aO,lo,hi,most,Mb,es⟩ xn e from rfl] at SI;generalize JT ⟨ag,aO,lo,hi,most,Mb,es⟩ xn e=sp at SI hE;have gP:=aeX Kf.to U;clear aeX;generalize diffV ND (aH S) S.ae.length obs x y Kf.to U=R at iS hE gP;generalize nZ Kf x y=SC at hcs hE;generalize aH S U obs=b1 at SH hE;generalize aH S SN obs=b2 at D7 hE;obtain ⟨ak,an,as',aks⟩:=x;obtain ⟨bk,bn,bs,bks⟩:=y;obtain ⟨en,eb,ea,et,rb,ew,ln,ti,ru,pS⟩:=Kf;obtain ⟨sk,sn,ss⟩:=sp;refine iX (jB hx) ?_;refine cP abD bR ?_;refine cP Pr SH ?_
    cases b1 with
    | true=>
     simp only [reduceIte] at hE;refine dI ?_;refine iX (jB hy) ?_;refine DD VP rfl iS ax (fun pq bO hr=>?_)
     match R,hr,hE,gP with
     | none,hr,hE,_=>
      obtain ⟨rfl,rfl⟩:=hr;simp only at hE;exact rE ⟨_,by omega,e + 1,rfl,by omega,hE,rfl⟩ (bZ 4 (jM (aG aq (by omega))) (cJ (aG aq (by omega))))
     | some [],hr,hE,_=>
      obtain ⟨rfl,rfl⟩:=hr;simp only at hE;rw [<- hE];refine sa (os:=[]) 0 0 Ps rfl rfl rfl rfl ax SI (fun r j4 cM hr h1 h2=>?_);subst hr;obtain rfl:=List.eq_nil_of_length_eq_zero h1;obtain rfl:=List.eq_nil_of_length_eq_zero h2;refine ⟨⟨[(111,⟨[],.agg (eU ⟨sk,sn,ss⟩)⟩),(107,⟨[],.sl 0 [] (some 0)⟩)],[],[⟨0,141,3,some []⟩]⟩,Wk.MU (cX 0 ⟨0,141,3,some []⟩ rfl rfl rfl qL rfl rfl lj),?_⟩;refine ⟨⟨⟨rfl,by simp⟩,by simp [maxLen],by simp⟩,?_⟩;exact ⟨.tup [.sl 0 (List.replicate 1 []) (some 0),.v (.bool true)],[],gQ,rfl,rfl,rfl⟩
     | some (s0 :: p0),hr,hE,gP=>
      obtain ⟨rfl,rfl⟩:=hr;simp only at hE;rw [<- hE];refine cP Ps SI ?_;have gP:=gP (s0 :: p0) rfl;rw [List.length_cons] at gP;refine ⟨⟨⟨by simp,by simp⟩,by simp [maxLen];omega,by simp;omega⟩,?_⟩;refine ⟨.tup [.sl 0 (List.replicate (p0.length + 1 + 1) []) (some 0),.v (.bool true)],[],gQ,rfl,rfl,?_⟩;exact congrArg (fun l=>[(⟨p0.length + 1 + 1,141,3,some l⟩:TkE)]) (SG ⟨sk,sn,ss⟩ (s0 :: p0))
    | false=>
     by_cases Ro:ln=0
     ·subst Ro;simp at hE;refine dI ?_;exact rE ⟨_,by omega,e + 1,rfl,by omega,hE,rfl⟩ (bZ 4 (jM (aG aq (by omega))) (cJ (aG aq (by omega))))
     ·cases b2 with
      | false=>
       simp at hE;refine dI ?_;refine br (fun _=>?_) (fun g=>absurd g (by simp [Ro]));refine cD qu hj ?_;refine cD Pr D7 ?_;exact rE ⟨_,by omega,e + 1,rfl,by omega,hE,rfl⟩ (bZ 4 (jM (aG aq (by omega))) (cJ (aG aq (by omega))))
      | true=>
       simp [Ro] at hE;refine dI ?_;refine br (fun _=>?_) (fun g=>absurd g (by simp [Ro]));refine cD qu hj ?_;refine cD Pr D7 ?_;refine dI ?_;refine iX (jB hy) ?_;refine cD abE hcs ?_
       cases SC with
       | true=>
        simp at hE;exact rE ⟨_,by omega,e + 1,rfl,by omega,hE,rfl⟩ (bZ 4 (jM (aG aq (by omega))) (cJ (aG aq (by omega))))
       | false=>
        simp at hE;rw [<- hE];refine sa (os:=[]) 0 0 Ps rfl rfl rfl rfl ax SI (fun r j4 cM hr h1 h2=>?_);subst hr;obtain rfl:=List.eq_nil_of_length_eq_zero h1;obtain rfl:=List.eq_nil_of_length_eq_zero h2;refine ⟨⟨[(111,⟨[],.agg (eU ⟨sk,sn,ss⟩)⟩),(107,⟨[],.sl 0 [] (some 0)⟩)],[],[⟨0,141,3,some []⟩]⟩,Wk.MU (cX 0 ⟨0,141,3,some []⟩ rfl rfl rfl qL rfl rfl lj),?_⟩;refine ⟨⟨⟨rfl,by simp⟩,by simp [maxLen],by simp⟩,?_⟩;exact ⟨.tup [.sl 0 (List.replicate 1 []) (some 0),.v (.bool true)],[],gQ,rfl,rfl,rfl⟩
   ·have hge:e=vQ.length:=by have:=IQ;simp [Oz,Val.ks] at this;omega
    subst hge;rw [List.drop_length] at hE;rw [<- hE,show diffVs ND (aH S) S.ae.length obs ([]:List Val) (D6.drop vQ.length) ⟨ag,aO,lo,hi,most,Mb,es⟩ xn a vQ.length=none by rw [diffVs];simp];exact ⟨_,[],ax,rfl,rfl,rfl⟩
theorem reverse_nil:Ev prog 153 [.v (.slice none 0 0)] [] [] (fun _ _ _=>True):=by
 refine eG 28 [] func153 rfl ntmps153 rfl fun _ _ _ _=>?_;refine lI (fun t st=>st=⟨[(0,⟨[],.v (.slice none 0 0)⟩),au 2 0,au 3 (-1)],[],[]⟩/\t=0) ⟨rfl,rfl⟩ (bz lj) ?_;rintro t st ⟨rfl,rfl⟩;exact ⟨.tup [],ax,trivial⟩
section
variable {S:Sch} {ND:List Nd} {PC LC:List DV} (hP:dX S ND PC) (ir:EvP prog 72 [.pt PC 0] (.pt LC 0)) (hR:Js S.ae.length (aH S) (az S.ae) LC) (S4:∀ n∈ND,Ob n) (bW:∀ n∈ND,n.ai.length<=1099511627776) (rt:Nat) (mQ:dw S=rt)
include hP ir hR mQ
theorem Cd (o:Int) (x y:Val) (hx:x.wt<=1099511627776) (hy:y.wt<=1099511627776) :
  EvP prog 78 [.pt PC 0,.v (.int .i64 o),.agg (bg x),.agg (bg y)] (.v (.bool (decide (0<=o/\o < S.ae.length) && fitV ND x rt && fitV ND y rt))):=by
 have hlen:=hR.len;have eo:=hP.root;rw [mQ] at eo;have h1:=ld hP _ x (aV _) hx rt;have h2:=ld hP _ y (aV _) hy rt;generalize fitV ND x rt=F1 at h1 ⊢;generalize fitV ND y rt=F2 at h2 ⊢;obtain ⟨xk,xn,xs,vQ⟩:=x;obtain ⟨yk,yn,ys,D6⟩:=y;refine eG 32 [.tmp 8] func78 rfl ntmps78 rfl fun _ _ _ _=>?_;refine dI ?_;refine br ?_ ?_<;>intro c
 ·have c:0<=o:=sU c;refine cD tJ ir ?_;refine cD H9 hlen ?_;refine br ?_ ?_<;>intro g
  ·have g:o < S.ae.length:=by simpa [pickB] using g
   refine cD Mt eo ?_;refine cD H8 h1 ?_;rw [show decide (0<=o/\o < (S.ae.length:Int))=true from decide_eq_true ⟨c,g⟩]
   cases F1 with
   | false=>exact (rfl:_=_)
   | true=>
    refine cD Mt eo ?_;refine cD H8 h2 ?_;exact (rfl:_=_)
  ·have g:¬ o < S.ae.length:=by simpa [pickB] using g
   rw [show decide (0<=o/\o < (S.ae.length:Int))=false from decide_eq_false (fun h=>g h.2)];exact (rfl:_=_)
 ·have c:¬ 0<=o:=sU c;rw [show decide (0<=o/\o < (S.ae.length:Int))=false from decide_eq_false (fun h=>c h.1)];exact (rfl:_=_)
include S4 bW
theorem Kg (dK:rt < ND.length) (o:Int) (x y:Val) (hx:x.wt<=1099511627776) (hy:y.wt<=1099511627776) (qh:rngW x) (hry:rngW y) :
  EvP prog 77 [.pt PC 0,.v (.int .i64 o),.agg (bg x),.agg (bg y)] (dfD (dfF ND (aH S) S.ae.length rt o x y)):=by
 have hb:=Cd hP ir hR rt mQ o x y hx hy;have eo:=hP.root;rw [mQ] at eo;have iq:=hR.bot;have hD:dfF ND (aH S) S.ae.length rt o x y=if 0<=o/\o < S.ae.length/\fitV ND x rt=true/\fitV ND y rt=true then diffV ND (aH S) S.ae.length o.toNat x y rt (dC (aH S) S.ae.length) else none:=rfl
 generalize dfF ND (aH S) S.ae.length rt o x y=D at hD ⊢;by_cases hc:0<=o/\o < S.ae.length/\fitV ND x rt=true/\fitV ND y rt=true
 ·rw [ap hc] at hD;rw [show decide (0<=o/\o < (S.ae.length:Int))=true from decide_eq_true ⟨hc.1,hc.2.1⟩,hc.2.2.1,hc.2.2.2] at hb;obtain ⟨ob,rfl⟩:∃ n:Nat,o=n:=⟨_,(Int.toNat_of_nonneg hc.1).symm⟩;rw [eH] at hD;have hdf:=sZ hP hR S4 bW ob (by omega) _ x (aV _) hx qh y hy hry rt (dC (aH S) S.ae.length) (lH hR.ok) hc.2.2.1 hc.2.2.2;rw [<- hD] at hdf;have gP:=fun p h=>uP (ND:=ND) (f:=aH S) (L:=S.ae.length) (obs:=ob) x y rt (dC (aH S) S.ae.length) p h;rw [<- hD] at gP;generalize dC (aH S) S.ae.length=bt at iq hdf;obtain ⟨xk,xn,xs,vQ⟩:=x;obtain ⟨yk,yn,ys,D6⟩:=y;refine eG 40 [.tmp 8,.tmp 9] func77 rfl ntmps77 rfl fun _ _ _ _=>?_;refine cP TD hb ?_;refine cP tJ ir ?_;refine dI ?_;refine cD Mt eo ?_;refine cD TC iq ?_;refine DD VP rfl hdf ax (fun pq bO hr=>?_)
  match D,hr,gP with
  | none,hr,_=>
   obtain ⟨rfl,rfl⟩:=hr;refine dj Pk rfl reverse_nil ax (fun q _=>?_);exact ⟨_,ax,rfl⟩
  | some [],hr,_=>
   obtain ⟨rfl,rfl⟩:=hr;refine dj Pk rfl reverse_nil ax (fun q _=>?_);exact ⟨.tup [.sl 3 (aF []) none,.v (.bool true)],ax,rfl⟩
  | some (s :: p),hr,gP=>
   obtain ⟨rfl,rfl⟩:=hr;have gP:=gP (s :: p) rfl;have dK:(s :: p).reverse.length=p.length + 1:=by rw [List.length_reverse,List.length_cons]
   have E8:=D4 (s :: p).reverse (by simp) (by rw [dK];rw [List.length_cons] at gP;omega);rw [dK,List.reverse_reverse] at E8
   have wb:∀ x∈aF (s :: p),x.length=3:=fun x hx=>by
    obtain ⟨y,_,rfl⟩:=List.mem_map.1 hx;rfl
   have fI:(aF (s :: p)).length=p.length + 1:=by rw [ef,List.length_cons]
   have vH:(List.replicate (p.length + 1) ([]:List DV)).length=p.length + 1:=List.length_replicate;refine sa (os:=[]) 0 1 Pk rfl rfl rfl rfl gQ E8 (fun r j4 cM hr h1 h2=>?_);subst hr;obtain rfl:=List.eq_nil_of_length_eq_zero h1;refine ⟨_,Vr (t:=11) (k:=0) (ns:=aF (s :: p)) rfl wb fI rfl vH,?_⟩;exact ⟨.tup [.sl 3 (aF (s :: p)) none,.v (.bool true)],ax,rfl⟩
 ·rw [aj hc] at hD;subst hD;have hf:(decide (0<=o/\o < S.ae.length) && fitV ND x rt && fitV ND y rt)=false:=by grind
  rw [hf] at hb;obtain ⟨xk,xn,xs,vQ⟩:=x;obtain ⟨yk,yn,ys,D6⟩:=y;refine eG 40 [.tmp 8,.tmp 9] func77 rfl ntmps77 rfl fun _ _ _ _=>?_;refine cP TD hb ?_;exact ⟨_,ax,rfl⟩
theorem Hr (dK:rt < ND.length) (o:Int) (x y:Val) (hx:x.wt<=1099511627776) (hy:y.wt<=1099511627776) (qh:rngW x) (hry:rngW y) :
  EvP prog 21 [.pt PC 0,.v (.int .i64 o),.agg (bg x),.agg (bg y)] (.v (.bool (akF ND (aH S) S.ae.length rt o x y))):=by
 have hb:=Cd hP ir hR rt mQ o x y hx hy;have hd:=Kg hP ir hR S4 bW rt mQ dK o x y hx hy qh hry;have hA:akF ND (aH S) S.ae.length rt o x y=(decide (0<=o/\o < S.ae.length) && fitV ND x rt && fitV ND y rt && (diffV ND (aH S) S.ae.length o.toNat x y rt (dC (aH S) S.ae.length)).isNone):=rfl;have hD:dfF ND (aH S) S.ae.length rt o x y=if 0<=o/\o < S.ae.length/\fitV ND x rt=true/\fitV ND y rt=true then diffV ND (aH S) S.ae.length o.toNat x y rt (dC (aH S) S.ae.length) else none:=rfl
 have hE:akF ND (aH S) S.ae.length rt o x y=(decide (0<=o/\o < S.ae.length) && fitV ND x rt && fitV ND y rt && !(dfF ND (aH S) S.ae.length rt o x y).isSome):=by grind
 rw [hE];clear hE hD hA;generalize dfF ND (aH S) S.ae.length rt o x y=D at hd ⊢;generalize (decide (0<=o/\o < S.ae.length) && fitV ND x rt && fitV ND y rt)=B at hb ⊢;obtain ⟨xk,xn,xs,vQ⟩:=x;obtain ⟨yk,yn,ys,D6⟩:=y
 cases D with
 | none=>
  refine eG 28 [.tmp 8] func21 rfl ntmps21 rfl fun _ _ _ _=>?_;refine cP aa7 hd ?_;refine cP TD hb ?_;cases B<;>exact (rfl:_=_)
 | some p=>
  refine eG 28 [.tmp 8] func21 rfl ntmps21 rfl fun _ _ _ _=>?_;refine cP aa7 hd ?_;refine cP TD hb ?_;cases B<;>exact (rfl:_=_)
end
section
variable {ND:List Nd} {L:Nat}
mutual
theorem D8 (aZ:∀ n∈ND,cf L ND.length n) (HH:∀ n∈ND,Ob n):∀ (v:Val) (i:Int),fitV ND v i=true->rngW v
 | .mk k n s ks,i,h=>by
  obtain ⟨d,hF⟩:=ij aZ h;have hd:=mG (fw hF.ah).2;have hN:=aZ d hd;have hr:=HH d hd;have hk:k=d.ag:=hF.k;have h1:=hN.k1;have h8:=hN.k8;rw [rngW];refine ⟨by unfold K0;omega,?_,Hs aZ HH ks (fun m x hx=>(DG aZ h hF hx).imp fun e he=>⟨_,he.fit⟩)⟩;have hlo:=hr.1;have s6:=hr.2.1;have lm:d.ag=4->0<=n/\n < d.af.length:=hF.enum;have sI:=hN.af;have htg:=hF.tag;have hmn:=hN.many;rw [fitV,hF.ah] at h;simp only at h;unfold K0 at *;by_cases h5:d.ag < 5
  ·rw [ap h5] at h;unfold lK at h;by_cases c0:0 < (Val.mk k n s ks).ks.length∨((Val.mk k n s ks).k≠3/\(Val.mk k n s ks).s≠ay)∨((Val.mk k n s ks).k=3/\(Val.mk k n s ks).n≠0)
   ·rw [ap c0] at h;cases h
   rw [aj c0] at h;by_cases c1:d.ag=1
   ·rw [ap c1] at h
    grind [Val.k,Val.n]
   rw [aj c1] at h;by_cases c2:d.ag=2
   ·rw [ap c2] at h
    grind [Val.k,Val.n]
   rw [aj c2] at h;by_cases c3:d.ag=3
   ·have:n=0:=by
     by_cases c:n=0
     ·exact c
     ·exact (c0 (.inr (.inr ⟨hk.trans c3,c⟩))).elim
    omega
   ·have:=lm (by omega);have:=sI (by omega);omega
  ·rw [aj h5,bc] at h;by_cases c8:d.ag=8
   ·obtain ⟨e,_,_,h3,h4,_⟩:=htg c8;have:=(hmn (.inr c8)).1;simp only [Val.n] at h3 h4;omega
   ·have hp:fL (.mk k n s ks)=true:=by
     have hB:=h.1;unfold gA at hB;by_cases S0:d.ag=5∨d.ag=6
     ·rw [ap S0] at hB;simp only [bc] at hB;exact hB.1.1
     rw [aj S0,ap (by omega)] at hB;simp only [bc] at hB;exact hB.1.1
    unfold fL at hp
    grind [Val.k,Val.n]
theorem Hs (aZ:∀ n∈ND,cf L ND.length n) (HH:∀ n∈ND,Ob n):∀ (ks:List Val),(∀ (m:Nat) x,ks[m]? = some x->∃ (_:Ed) (i:Int),fitV ND x i=true)->rngWs ks
 | [],_=>trivial
 | x :: r,h=>by
  obtain ⟨_,i,hi⟩:=h 0 x rfl;rw [rngWs];exact ⟨D8 aZ HH x i hi,Hs aZ HH r fun m y hy=>h (m + 1) y hy⟩
end
end
abbrev aeY (p:List Stp) (Q:List Stp) (q e:Nat):St:=⟨[aM 0 3 (aF p),(3,⟨[],.sl 3 (aF Q) (some 0)⟩),au 4 e],[],[⟨q,141,3,none⟩]⟩
theorem D9 (p:List Stp) (hp:p.length<=1000000):EvP prog 35 [.sl 3 (aF p) none] (.sl 3 (aF (p.map vu)) none):=by
 have cu:=ef p;refine eG 29 [.tmp 2] func35 rfl ntmps35 rfl fun _ _ _ _=>?_;refine lI (fun j st=>∃ e q:Nat,st=aeY p ((p.take e).map vu) q e/\q=e/\e<=p.length/\j=p.length - e) ⟨0,0,rfl,rfl,by omega,rfl⟩ (eP ⟨0,141,3,none⟩ rfl ⟨_,rfl⟩ rfl wA rfl rfl lj) ?_;rintro _ st ⟨e,q,rfl,rfl,he,rfl⟩;refine br ?_ ?_<;>intro IQ
 ·have aq:q < p.length:=sV cu IQ;obtain ⟨s,hs⟩:=gX aq
  have dx:aF ((p.take q).map vu) ++ [eU (vu s)]=aF ((p.take (q + 1)).map vu):=by
   rw [dZ hs];simp [aF]
  have we:(aF ((p.take q).map vu)).length=q:=by simp [aF];omega
  have Oc:vu s=if s.k=3 then ⟨2,0,ay⟩ else s:=rfl
  generalize vu s=t at dx Oc;have Z2:=eu hs;obtain ⟨sk,sn,ss⟩:=s;simp only at Oc;refine ⟨_,⟨by omega,Z2⟩,?_⟩;refine br ?_ ?_<;>intro g
  ·rw [ap (of_decide_eq_true g)] at Oc;subst Oc;refine ⟨we,⟨by rw [we];simp [maxLen];omega,by rw [we];simp;omega⟩,?_⟩;exact rE ⟨_,by omega,q + 1,q + 1,rfl,rfl,by omega,rfl⟩ (bz (wB2 (aG aq (by omega)) dx))
  ·rw [aj (of_decide_eq_false g)] at Oc;subst Oc;refine ⟨_,⟨by omega,Z2⟩,?_⟩;refine ⟨we,⟨by rw [we];simp [maxLen];omega,by rw [we];simp;omega⟩,?_⟩;exact rE ⟨_,by omega,q + 1,q + 1,rfl,rfl,by omega,rfl⟩ (bz (wB2 (aG aq (by omega)) dx))
 ·have hge:q=p.length:=by
   have h2:=IQ;simp [cu] at h2;omega
  subst hge;rw [List.take_length];exact ⟨_,ax,rfl⟩
structure RowG (ND:List Nd) (PC:List DV) (o:Int) (r:bK):Prop where
 how:r.how=0∨r.how=1∨r.how=2
 who:∃ w:List Nat,EvP prog 33 [.pt PC 0,.sl 3 (aF r.p) none] (.sl 1 (dInts w) none)/\w.length<=1000000/\((∃ x∈w,(x:Int)=o)↔r.how=2)
 it:EvP prog 35 [.sl 3 (aF r.p) none] (.sl 3 (aF (r.p.map vu)) none)
 nd:∃ m,ND[r.ah]? = some m/\EvP prog 36 [.pt PC 0,.v (.int .i64 (r.ah:Nat))] (.tup [.agg (j5 m),.v (.bool true)])
 pr:∃ Q,EvP prog 34 [.pt PC 0,.sl 3 (aF (r.p.map vu)) none] (Sq Q)/\∀ c d,Q=some (c,d)->∃ al:Bool,EvP prog 21 [.pt PC 0,.v (.int .i64 o),.agg (bg c),.agg (bg d)] (.v (.bool al))/\(r.how=0->al=true)/\(r.how=2->∀ m,ND[r.ah]? = some m->m.ag < 7->al=false)
theorem Od {S:Sch} (hS:S.wt<=1099511627776) (S4:TP S) (h0:y8 S) (o dp:Int) {PC:List DV} (hP:dX S (bp S) PC) :
  ∃ (root:Nat) (L:List bK),EvP prog 32 [.pt PC 0,.v (.int .i64 o),.v (.int .i64 dp)] (.sl 4 (iY L) none)/\EvP prog 37 [.pt PC 0] (.v (.int .i64 (root:Nat)))/\L.length<=1000/\(∀ x,L[0]? = some x->x.ah=root)/\∀ r∈L,RowG (bp S) PC o r:=by
 have hRr:=fun n (hn:n∈bp S)=>Kd S4 hn;have hesz:∀ n∈bp S,n.ai.length<=1099511627776:=fun n hn=>(kC hn hS).2;obtain ⟨root,mQ,dK⟩:=@Jq S (sB h0.pq);obtain ⟨LC,ir,hR⟩:=hP.Np;have eo:=hP.root;rw [mQ] at eo
 have iq:∀ (i:Nat) d,(bp S)[i]? = some d->∀ e∈d.ai,d.ag < 7->e.label.toNat=dC (aH S) S.ae.length:=fun i d hd e he hk=>by
  rw [zf hP.fine hd he hk,eH]
 refine ⟨root,_,zk hP root mQ dK o dp,eo,BI,fun x hx=>J6 hx,fun r hr=>?_⟩;have hf:=LS hR.ok hP.ok dK o dp r hr;obtain ⟨⟨ho1,ho2⟩,hk⟩:=Vq hR.ok hP.ok iq r hr;have hlen:=hf.len;have bW:∀ s∈r.p,s.s.size<=1099511627776:=fun s hs=>(hf.Zr s hs).2
 have hszm:∀ s∈r.p.map vu,s.s.size<=4611686018427387904:=fun s hs=>by
  obtain ⟨t,ht,rfl⟩:=List.mem_map.1 hs;have:=bW t ht;unfold vu;split
  ·show ay.size<=_;decide
  ·omega
 obtain ⟨m,hm⟩:∃ m,(bp S)[r.ah]? = some m:=⟨_,gE hf.ah⟩;have ae0:=Rp hP r.p (by omega) (fun s hs=>by have:=bW s hs;omega) root mQ dK;rw [hk.wk] at ae0;refine ⟨by have:=hf.how;omega,⟨_,ae0,?_,?_⟩,D9 r.p (by omega),⟨m,hm,hP.ah _ m hm⟩,⟨_,J2 hP (fun n hn _=>⟨(hRr n hn).1.1,(hRr n hn).2.1.2⟩) (r.p.map vu) (by rw [List.length_map];omega) hszm root mQ dK,fun c d hq=>?_⟩⟩
 ·have:=Gu (aH S) r.lv S.ae.length;have:=hR.n32;show (uz (aH S) r.lv S.ae.length).length<=_;omega
 ·rw [hk.hw];show (∃ x∈uz (aH S) r.lv S.ae.length,(x:Int)=o)↔_;unfold uz;constructor
  ·rintro ⟨x,hx,rfl⟩;rw [eH];exact (List.mem_filter.1 hx).2
  ·intro h;exact ⟨o.toNat,List.mem_filter.2 ⟨List.mem_range.2 (by omega),h⟩,by omega⟩
 ·obtain ⟨g1,g2,g3,g4,g5,g6⟩:=J7 hR.ok hP.ok iq hk hq;refine ⟨_,Hr hP ir hR hRr hesz root mQ dK o c d (by omega) (by omega) (D8 hP.ok hRr c _ g3) (D8 hP.ok hRr d _ g4),fun hh=>?_,fun hh m hm h7=>?_⟩
  ·unfold akF;rw [g3,g4,g5 hh,decide_eq_true ⟨ho1,ho2⟩];rfl
  ·unfold akF;rw [g6 hh m hm h7,Bool.and_false]
abbrev ae1 (SS FF PC:List DV) (o:Int) (L:List bK) (e:Nat):St:=
 ⟨[au 1 o,eX 7 PC,aM 9 4 (iY L),au 10 e],[SS,FF],[]⟩
abbrev Xo (SS FF PC:List DV) (o:Int) (L:List bK) (e:Nat) (w:List Nat) (b:Bool) (k:Nat):St:=
 ⟨[au 1 o,eX 7 PC,aM 9 4 (iY L),au 10 e,aM 11 1 (dInts w),qN 12 b,au 13 k],[SS,FF],[]⟩
set_option maxHeartbeats 4000000 in
theorem true42_law (S:Sch) (hS:S.wt<=1099511627776) (S4:TP S) (o dp:Int):EvP prog 6 [.agg (fo S),.v (.int .i64 o),.v (.int .i64 dp)] (.v (.bool true)):=by
 have hf:=Gt S hS;have hb:=(yD S hS).mono (Ψ:=fun r _ _=>Jr S r) fun _ _ _ h=>Bt hS h;have key:=fun h0 PC (hP:dX S (bp S) PC)=>Od hS S4 h0 o dp hP;generalize hSS:S=SS at *;subst hSS;obtain ⟨ae,order,types,⟨rh,rp⟩⟩:=S;refine eG 147 [.tmp 6] func6 rfl ntmps6 rfl fun _ _ _ _=>?_;refine dj en30 rfl hf ax (fun r hr=>?_);obtain ⟨b,rfl,h0⟩:=hr
 cases b with
 | false=>
  refine cP Tz kr ?_;exact (rfl:_=_)
 | true=>
 have h0:=h0 rfl;refine br ?_ ?_<;>intro g
 ·refine cP Tz kr ?_;exact (rfl:_=_)
 refine dj aa0 rfl hb ax (fun r hr=>?_);rcases hr with ⟨hr,_⟩ | ⟨_,PC,hP,rfl⟩
 ·exact (hr h0.pq).elim
 obtain ⟨root,L,hrw,eo,hLl,hhd,hG⟩:=key h0 PC hP;clear key;generalize bp ⟨ae,order,types,.mk rh rp⟩=ND at hG;have cu:=Bw L;refine cP aa1 hrw ?_;refine lJ (fun e=>ae1 (fo ⟨ae,order,types,.mk rh rp⟩) [.v (.int .i64 0),.v (.int .i64 0)] PC o L e) L.length (bZ 2 qL lj) ?_;intro e he;refine br ?_ ?_<;>intro IQ
 ·have aq:e < L.length:=by
   rw [av] at IQ;simp [cu] at IQ;exact IQ.1
  obtain ⟨r,hr⟩:=gX aq;obtain ⟨how,⟨w,HE,pk,Kr⟩,SX,⟨m,jY,HS⟩,⟨Q,ZP,hQ2⟩⟩:=hG r (mG hr);have hrg:=pP hr;have hi:(0:Int)<=e/\(iY L)[((e:Nat):Int).toNat]? = some (Zd r):=⟨by omega,hrg⟩;have hwl:=aU w;obtain ⟨p,nd,lv,hh⟩:=r;simp only at how HE Kr SX jY HS ZP hQ2;refine ⟨_,hi,?_⟩;refine cP en33 HE ?_;refine lI (fun j st=>∃ (k:Nat) (b:Bool),st=Xo (fo ⟨ae,order,types,.mk rh rp⟩) [.v (.int .i64 0),.v (.int .i64 0)] PC o L e w b k/\k<=w.length/\(b=true↔∃ x∈w.take k,(x:Int)=o)/\j=w.length - k) ⟨0,false,rfl,by omega,by simp,rfl⟩ (bZ 2 qL lj) ?_;rintro _ st ⟨k,b,rfl,hk,rq,rfl⟩;refine br ?_ ?_<;>intro ae2
  ·have n8:k < w.length:=sV hwl ae2;obtain ⟨x,hx⟩:=gX n8;have Ec:=aR hx;have hts:w.take (k + 1)=w.take k ++ [x]:=dZ hx
   cases b with
   | true=>
    exact rE ⟨_,by omega,k + 1,true,rfl,by omega,by
     obtain ⟨y,hy,hyo⟩:=rq.1 rfl
     exact ⟨fun _=>⟨y,by rw [hts];exact List.mem_append_left _ hy,hyo⟩,fun _=>rfl⟩,rfl⟩ (bZ 2 (jM (aG n8 (by omega))) (cJ (aG n8 (by omega))))
   | false=>
    refine ⟨_,⟨by omega,Ec⟩,?_⟩
    exact ⟨Xo (fo ⟨ae,order,types,.mk rh rp⟩) [.v (.int .i64 0),.v (.int .i64 0)] PC o L e w (decide ((x:Int)=o)) (k + 1),(bZ 2 (jM (aG n8 (by omega))) (cJ (aG n8 (by omega)))),w.length - (k + 1),by omega,k + 1,_,rfl,by omega,by
     rw [decide_eq_true_iff,hts];constructor
     ·intro h;exact ⟨x,by simp,h⟩
     ·rintro ⟨y,hy,hyo⟩;rcases List.mem_append.1 hy with hy | hy
      ·exact absurd (rq.2 ⟨y,hy,hyo⟩) (by simp)
      ·rw [List.mem_singleton.1 hy] at hyo
       exact hyo,rfl⟩
  ·have hge:k=w.length:=by
    have h2:=ae2;simp [hwl] at h2;omega
   subst hge;rw [List.take_length,Kr] at rq
   have hbv:b=decide (hh=2):=by
    rw [Bool.eq_iff_iff,rq,decide_eq_true_iff]
   clear rq HE Kr;refine ⟨_,hi,?_⟩;rcases how with rfl | rfl | rfl
   ·obtain rfl:b=false:=hbv;refine ⟨_,hi,?_⟩;refine cP X4 SX ?_
    cases Q with
    | none=>
     refine cP Ms ZP ?_;exact rE ⟨_,by omega,e + 1,rfl,by omega,rfl⟩ (bZ 2 (jM (aG aq (by omega))) (cJ (aG aq (by omega))))
    | some cd=>
     obtain ⟨c,d⟩:=cd;obtain ⟨al,ha1,As,Ey⟩:=hQ2 c d rfl;have Ey:=fun h=>Ey h m jY;obtain ⟨ck,cn,cs,cl⟩:=c;obtain ⟨dk,dn,ds,dl⟩:=d;obtain ⟨ag,aO,lo,iw,most,af,es⟩:=m;refine cP Ms ZP ?_;refine ⟨_,hi,?_⟩;refine cP oE HS ?_;refine cP X3 ha1 ?_;refine ⟨_,hi,?_⟩;obtain rfl:al=true:=As rfl;refine ⟨_,hi,?_⟩;exact rE ⟨_,by omega,e + 1,rfl,by omega,rfl⟩ (bZ 2 (jM (aG aq (by omega))) (cJ (aG aq (by omega))))
   ·obtain rfl:b=false:=hbv;refine ⟨_,hi,?_⟩;refine cP X4 SX ?_
    cases Q with
    | none=>
     refine cP Ms ZP ?_;exact rE ⟨_,by omega,e + 1,rfl,by omega,rfl⟩ (bZ 2 (jM (aG aq (by omega))) (cJ (aG aq (by omega))))
    | some cd=>
     obtain ⟨c,d⟩:=cd;obtain ⟨al,ha1,As,Ey⟩:=hQ2 c d rfl;have Ey:=fun h=>Ey h m jY;obtain ⟨ck,cn,cs,cl⟩:=c;obtain ⟨dk,dn,ds,dl⟩:=d;obtain ⟨ag,aO,lo,iw,most,af,es⟩:=m;refine cP Ms ZP ?_;refine ⟨_,hi,?_⟩;refine cP oE HS ?_;refine cP X3 ha1 ?_;refine ⟨_,hi,?_⟩;refine ⟨_,hi,?_⟩;exact rE ⟨_,by omega,e + 1,rfl,by omega,rfl⟩ (bZ 2 (jM (aG aq (by omega))) (cJ (aG aq (by omega))))
   ·obtain rfl:b=true:=hbv;refine ⟨_,hi,?_⟩;refine cP X4 SX ?_
    cases Q with
    | none=>
     refine cP Ms ZP ?_;exact rE ⟨_,by omega,e + 1,rfl,by omega,rfl⟩ (bZ 2 (jM (aG aq (by omega))) (cJ (aG aq (by omega))))
    | some cd=>
     obtain ⟨c,d⟩:=cd;obtain ⟨al,ha1,As,Ey⟩:=hQ2 c d rfl;have Ey:=fun h=>Ey h m jY;obtain ⟨ck,cn,cs,cl⟩:=c;obtain ⟨dk,dn,ds,dl⟩:=d;obtain ⟨ag,aO,lo,iw,most,af,es⟩:=m;refine cP Ms ZP ?_;refine ⟨_,hi,?_⟩;refine cP oE HS ?_;refine cP X3 ha1 ?_;refine ⟨_,hi,?_⟩;refine ⟨_,hi,?_⟩;refine br ?_ ?_<;>intro g
     ·exfalso;by_cases c:ag < 7
      ·obtain rfl:al=false:=Ey rfl c;simp [av] at g
      ·simp [av,c] at g
     ·exact rE ⟨_,by omega,e + 1,rfl,by omega,rfl⟩ (bZ 2 (jM (aG aq (by omega))) (cJ (aG aq (by omega))))
 ·refine dI ?_;refine br ?_ ?_<;>intro g
  ·have bA:0 < L.length:=by
    have g:¬ ((iY L).length:Int)=0:=sU g;omega
   obtain ⟨r,hr⟩:∃ r,L[0]? = some r:=⟨_,gE bA⟩;have mQ:=hhd r hr;have hrg:=pP hr;obtain ⟨p,nd,lv,hh⟩:=r;obtain rfl:nd=root:=mQ;refine ⟨_,⟨by omega,hrg⟩,?_⟩;refine cD Mt eo ?_;refine br (fun g=>?_) (fun g=>absurd g (by simp [pickB]));refine cD Tz kr ?_;exact (rfl:_=_)
  ·refine cD Tz kr ?_;exact (rfl:_=_)
end Go.Proofs.YtgjagnmeonoehaaGreat
