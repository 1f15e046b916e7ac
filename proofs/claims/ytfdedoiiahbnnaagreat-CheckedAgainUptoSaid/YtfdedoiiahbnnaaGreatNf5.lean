/- Part 5 of the proof: Steps of a region that draws its order, one by one; What resolve.Build says of a schema; lattices in which nothing is wrong; resolve.Build; Reading a plan: Len, Root, Lattice, Node, Find; slices.Clone; of no plan as well; The reference of chapter 17: Great, Same; The program's comparing of schemas; The law's example: a type that leads to itself; The law of no plan: the call returns true; The document's relations: Leads; The document's lattices: Find, pairs, Leq, Loop; The document's lattices: what is wrong; The document's labels: over, Least, Of; The document's schemas: Find, word, all, Flat, End, Start; The document's schemas: Flat, End, Start; The document's schemas: named, unknown; The reference's Wrong returns what is wrong with a type; The document's schemas: what is wrong; The document's nodes: Same, of equal ones; the law's node; The document's nodes: node; The document's plan: Build; What is known of a type with which nothing is wrong; labels have levels; What is known of the nodes of a plan; A plan, as its readers know it; Values, plain; how many are in one, how deep they lie; Values that are the same; Which values fit which nodes: plain, as the program finds it and as the document says it; tree's leaf, kids, Fits; tree.Fits; the document's To, Fits; Values as they are written: plain; tree.write, Raw; Paths: data, Step compared with itself; ref09.Begins, Same on the same path; ref25.Step; A lattice, as its readers know it; Leq; joins are the document's; Where steps lead in a plan, and how places are seen, plain; What is seen of values, and where that differs, plain; A text's first units: the document's Head, the program's heads, floors; Escapes: plain; numbers in sixteens; UTF-8: the program's Scalar, Encode; Texts in quotes: numbers in sixteens, which runes may steer a terminal; Texts in quotes: short escapes, kinds of runes; Escapes: the program's scalar, One, plain; Escapes: the program's One, plain; Rules for the evaluator: String of a Builder that holds nothing; String of a Builder of one's own, where other objects are kept; Cursors: plain; Texts in quotes that are read: plain; the program's Unquote; Whole numbers in texts, plain; Whole numbers in texts: the program's run, value, Take; Whole numbers in texts: the program's Take of a number that there is; Whole numbers in texts: the program's Take, whatever stands there; Tokens: Blank, Mark, the token of a name, of a mark, of a number; Tokens: the token of a name, of a mark, of a number; all of a text's; Tokens, whatever stands there: plain; the program's token; Tokens, whatever stands there: the program's token, remark; Remarks; all tokens of a text: plain; the program's remark; All tokens of a text, or what is wrong: plain; the program's Scan; Cursors: the program's Peek, step, is, Mark, Word, Take, Need, Fail, Enter, Leave, Fault. No condition. -/
import Derived.Test.YtfdedoiiahbnnaaGreatNf2
import Derived.Test.YtfdedoiiahbnnaaGreatNf3
import Derived.Test.YtfdedoiiahbnnaaGreatNf4
set_option linter.all false
namespace Go.Proofs.YtfdedoiiahbnnaaGreat
namespace Dv
open Go Go.RowKit
section
variable {X:Ctx} {st:St} {k:List It} {E:En} {a:Act} {w:World} {ops:Array Oper} {W:Nat->Bool} {C:World->Prop} {Q:Act->World->Prop} {i:Nat} {r:List Nat} {o:Oper}
theorem dn (hg:o.guard=none):Region.wanted o (yielded ops a.tmps)=true:=by
 unfold Region.wanted;rw [hg]
theorem CL {bx:List (List DV)} {wr:World} (h:Rel X E st a w) (hE:vf E bx wr) (hC:∀ w',C w' -> CC E bx wr w'):Rl E bx C st.sl a where
 tm:=h.tm
 dY:=fun i cs hi=>by
  by_cases bo:cs=[]
  ·subst bo;have aE:i < E.β.length:=by rw [hE.len];exact (gS hi).1
   exact ⟨_,[],gE aE,⟨cO _,by simp⟩,fun w' _ j u hj=>by simp at hj⟩
  ·obtain ⟨b,ty,arr,hb,hw,hc⟩:=hE.dY i cs hi bo;exact ⟨b,arr,hb,hc,fun w' h' j u hj=>by rw [cJ (((hC w' h').o i b cs hb hi bo).trans hw)];simpa using hj⟩
 cc:=fun x v hx w' h'=>(hC w' h').c x v hx
theorem Kj {bx:List (List DV)} (h:Env E bx w) (m:List Nat):vf E (maskL m 0 bx) w:=⟨by rw [sJ];exact h.len,fun i cs hi bo=>by
 rcases sK m _ _ _ _ hi with h1 | h1
 ·exact (bo h1).elim
 ·exact h.dY i cs h1⟩
theorem nf (hR:Rel X E st a w) (ho:ops[i]? = some o) (hE:isE o.op=false) (hL:isL o.op=false) (hg:o.guard=none) {s:DV} (hs:pureT X.P X.T ⟨st.sl,[],[]⟩ [] o.op=some s) (hd:eV X.nt st.sl o.dst=true)
  (hk:∀ a',Rel X E (st.put o.dst ⟨[],s⟩) a' w->runT X.P ops W C Q r a' w):runT X.P ops W C Q (i :: r) a w:=by
 have gY:Rl E [] (fun _=>False) st.sl a:=⟨hR.tm,fun i cs hi=>by simp at hi,fun _ _ _ _ h=>h.elim⟩;obtain ⟨v,hv,bS⟩:=fC (st:=⟨st.sl,[],[]⟩) X.hT gY (aX _) hs;simp only [runT,ho,hE,Bool.false_eq_true,if_false];exact ⟨v,.inl ⟨dn hg,fun w' _=>bS w' fun h=>by rw [hL] at h;cases h⟩,fun h=>(by rw [hL] at h;cases h),hk _ (bh hR hd s v hv)⟩
theorem Uc (hR:Rel X E st a w) (ho:ops[i]? = some o) {bx:List (List DV)} (gY:Rl E bx C st.sl a) (XA:C w) (hE:isE o.op=false) (hg:o.guard=none) {s:DV} (hs:pureT X.P X.T ⟨st.sl,bx,[]⟩ [] o.op=some s) (hd:eV X.nt st.sl o.dst=true)
  (hk:∀ a',Rel X E (st.put o.dst ⟨[],s⟩) a' w->runT X.P ops W C Q r a' w):runT X.P ops W C Q (i :: r) a w:=by
 obtain ⟨v,hv,bS⟩:=fC (st:=⟨st.sl,bx,[]⟩) X.hT gY (aX _) hs;simp only [runT,ho,hE,Bool.false_eq_true,if_false];exact ⟨v,.inl ⟨dn hg,fun w' h=>bS w' h⟩,fun _=>XA,hk _ (bh hR hd s v hv)⟩
theorem Ud (hR:Rel X E st a w) (ho:ops[i]? = some o) {t x d:Nat} {b p j:Nat} {n:Nat} {kd:TK} {z:List Value} (hb:E.β[j]? = some b) (hop:o.op = .load t (.tmp x)) (kh:o.dst=some d) {i2 Ij b2:Nat} (iW:E.β[i2]? = some b2) (hx:rv st [] (.tmp x)=some (.loc i2 p)) (hT:X.T.find t=some ⟨n,false,kd,z⟩)
  (hC:∀ w',C w' -> w'.cell? ⟨b2,p,none⟩=some (.pointer (some ⟨b,Ij,none⟩))) (XA:C w) (hg:o.guard=none) (hd:eV X.nt st.sl (some d)=true)
  (hk:∀ a',Rel X E ⟨(d,⟨[],.loc j Ij⟩) :: st.sl,st.bx,st.tk⟩ a' w->runT X.P ops W C Q r a' w):runT X.P ops W C Q (i :: r) a w:=by
 have hE:isE o.op=false:=by rw [hop];all_goals rfl
 simp only [runT,ho,hE,Bool.false_eq_true,if_false];have hv:Rv E (.loc j Ij) (.pointer (some ⟨b,Ij,none⟩)):=by unfold Rv;exact ⟨b,hb,rfl⟩
 refine ⟨.pointer (some ⟨b,Ij,none⟩),.inl ⟨dn hg,fun w' h=>?_⟩,fun _=>XA,?_⟩
 ·have hC':=hC w' (h (by rw [hop];rfl));have e1:=bc hR.rl hx;unfold Rv at e1;obtain ⟨b3,Jy,e1⟩:=e1;rw [iW] at Jy;simp only [oI] at Jy;subst Jy;have SO:=(te_parts X.hT hT).2.1
  have hl:(loadVar t ⟨b2,p,none⟩).run X.P w' = .ok (.pointer (some ⟨b,Ij,none⟩)) w':=by
   simp [loadVar,j6 SO,hC']
  simp only [execOp,hop,e1,Sem.run_bind,Instr.loadAt,Instr.sureAddr,Sem.run_pure,Result.andThen_ok,hl]
 ·rw [kh];exact hk _ (bh hR hd (.loc j Ij) _ hv)
theorem Mz (hR:Rel X E st a w) (ho:ops[i]? = some o) {dst:Option Nat} {f:Operand} {args:Array Operand} {Ue:Array TypeId} (hop:o.op = .call ⟨.value f,args,Ue⟩) (kh:o.dst=dst) (hg:o.guard=none) {g:FuncId} {ds:List DV} (hf:rv st [] f=some (.fn g [] [])) (hl:argsV st [] args.toList=some ds) (gh:Enters X.P g)
  {K:Value->World->Prop} (hc:∀ vs,RvL E ds vs->Calls X.P g vs.toArray w fun e w'=>∃ v,e = .returned v/\K v w') (hk:∀ v w',K v w' -> (W i=false->C w->C w')/\runT X.P ops W C Q r (a.put dst v) w'):runT X.P ops W C Q (i :: r) a w:=by
 have hE:isE o.op=true:=by rw [hop];all_goals rfl
 have Qu:=dn (ops:=ops) (a:=a) hg;have gY:=hR.rl;have e1:=bc gY hf;unfold Rv at e1;obtain ⟨l1,r1,e1,py,hr1⟩:=e1;simp only [RvL] at py hr1;subst py hr1;have hargs:=gz gY (aX _) _ _ hl;simp only [runT,ho,hE,if_true,dQ,Qu];subst kh;obtain ⟨dst,op,ty,pos,after,gu⟩:=o;simp only at hop;subst hop
 have hr:(execOp a.eval ⟨dst,.call ⟨.value f,args,Ue⟩,ty,pos,after,gu⟩).run X.P w = .ok (.enter g (args.toList.map a.eval).toArray) w:=by
  have e3:(([]:List Value).toArray ++ args.map a.eval ++ ([]:List Value).toArray)=(args.toList.map a.eval).toArray:=by apply Array.ext';simp
  simp only [execOp,resolve,e1,Deferred.ofValue,Sem.run_bind,Sem.run_pure,Result.andThen_ok,invoke,e3];exact gh _ _
 unfold wq;rw [hr];refine (hc _ hargs).mono ?_;rintro e w' ⟨v,rfl,hK⟩;exact ⟨v,rfl,hk v w' hK⟩
theorem Uf (hR:Rel X E st a w) (ho:ops[i]? = some o) {dst:Option Nat} {f:Operand} {args:Array Operand} {Ue:Array TypeId} (hop:o.op = .call ⟨.value f,args,Ue⟩) (kh:o.dst=dst) (hg:o.guard=none) {g:FuncId} {ds XU:List DV} (hf:rv st [] f=some (.fn g [] [])) (hl:argsV st [] args.toList=some ds) (gh:Enters X.P g)
  {os:List (List DV)} (n1 m1:Nat) (uZ:Nat.ble n1 st.bx.length=true) (mC:Nat.ble m1 st.tk.length=true) (qZ:kZ [] n1 n1 m1 os (st.bx.take n1)) (ha:CcL [] n1 n1 m1 XU ds)
  {Φ:DV->List (List DV)->List TkE->Prop} (hc:Ev X.P g XU os (st.tk.take m1) Φ) (bp:X.still=false) (hX:X.bt=[])
  (hk:∀ v r' eO cA E' w',Φ r' eO cA -> eO.length=n1->cA.length=m1->Rel X E' ⟨st.sl,eO ++ st.bx.drop n1,cA ++ st.tk.drop m1⟩ a w' -> Rv E' r' v->Ext E E' -> E'.β=E.β->(∀ (i:Nat) b,n1<=i->E.β[i]? = some b->w'.heap[b]? = w.heap[b]?) ->
   (W i=false->C w->C w')/\runT X.P ops W C Q r (a.put dst v) w'):runT X.P ops W C Q (i :: r) a w:=by
 refine Mz hR ho hop kh hg hf hl gh (K:=fun v w'=>∃ r' eO cA E',Φ r' eO cA /\ eO.length=n1/\cA.length=m1/\Rel X E' ⟨st.sl,eO ++ st.bx.drop n1,cA ++ st.tk.drop m1⟩ a w' /\ Rv E' r' v/\Ext E E' /\ E'.β=E.β/\∀ (i:Nat) b,n1<=i->E.β[i]? = some b->w'.heap[b]? = w.heap[b]?)
  (fun vs hv=>?_) ?_
 ·refine (rz n1 m1 uZ mC qZ ha hc bp hX hR hv).mono ?_
  grind
 ·grind
theorem Ug (h:Rel X E st a w) (j o k:Nat) {n ty e:Nat} {ocs:List DV} {es ns:List (List DV)} (hq:st.tk[k]? = some ⟨n,ty,e,some ns.flatten⟩) (DC:∀ x∈ns,x.length=e) (kR:ns.length=n) (hj:st.bx[j]? = some ocs) (ho:ocs[o]? = some (.sl 0 es (some k))) (px:es.length=n) :
  ∃ E',Rel X E' ⟨st.sl,st.bx.set j (ocs.set o (.sl e ns none)),st.tk.set k ⟨n,ty,e,none⟩⟩ a w:=PI hq DC kR hj ho px E a w h
theorem MA (hR:Rel X E st a w) (ho:ops[i]? = some o) (hE:isE o.op=true) (hg:o.guard=none) (hW:W i=true) (hd:eV X.nt st.sl o.dst=true) {p:Prop} (hp:effC X st o (go X 4000 k)=some p) (h:p):runT X.P ops W C (fun a w=>kq X k .normal a w) [i] a w:=by
 have Qu:=dn (ops:=ops) (a:=a) hg;simp only [runT,ho,hE,if_true,dQ,Qu];refine kM ?_ (mM hd hR hp h);rintro a' w' ⟨st',E',zu,hr,_⟩;exact ⟨(fun h=>by rw [hW] at h;cases h),go_sound 4000 _ _ zu _ _ _ hr⟩
mutual
theorem tw {i j:Nat}:∀ d:DV,renD (swp i j) (renD (swp i j) d)=d
 | .v x=>rfl
 | .ud=>rfl
 | .agg l=>by simp only [renD,jW]
 | .bK l=>by simp only [renD,jW]
 | .sl e es tk=>rfl
 | .pt cs o=>rfl
 | .loc k o=>by simp only [renD,mP]
 | .el k o=>by simp only [renD,mP]
 | .ms k e o l c=>by simp only [renD,mP]
 | .fn g l r=>by simp only [renD,jW]
 | .pY t x=>by simp only [renD,tw]
theorem jW {i j:Nat}:∀ l:List DV,renL (swp i j) (renL (swp i j) l)=l
 | []=>rfl
 | d :: r=>by simp only [renL,tw,jW]
end
theorem AV {i j:Nat}:∀ l:List (Nat × Sl),renS (swp i j) (renS (swp i j) l)=l
 | []=>rfl
 | (k,⟨gs,s⟩) :: r=>by simp only [renS,tw,AV]
theorem AW {i j:Nat}:∀ l:List (List DV),renO (swp i j) (renO (swp i j) l)=l
 | []=>rfl
 | c :: r=>by simp only [renO,jW,AW]
theorem Qv {i j:Nat} (f:Nat->Nat) (l:List (List DV)) (hi:i < l.length) (hj:j < l.length):renO f (swL i j l)=swL i j (renO f l):=by
 apply List.ext_getElem?
 grind [wL,gw,eK]
theorem Fx {i j:Nat} {S:St} (hi:i < S.bx.length) (hj:j < S.bx.length):gl i j (gl i j S)=S:=by
 obtain ⟨sl,bx,tk⟩:=S;simp only [gl,AV];rw [Qv _ _ (by rw [eK];exact hi) (by rw [eK];exact hj),AW];congr 1;apply List.ext_getElem?
 grind [gw,fF,mP]
theorem CallG.Ik {f:FuncId} {args:List DV} {dst:Option Nat} (i j:Nat) (Od:Nat.ble X.n0 i=true) (DU:Nat.ble X.n0 j=true) (hi:Nat.blt i st.bx.length=true) (hj:Nat.blt j st.bx.length=true)
  (h:CallG X f (renL (swp i j) args) dst k (gl i j st)) (hX:X.bt=[]:=by exact rfl):CallG X f args dst k st:=by
 have nB:=hi;have jw:=hj;simp only [Nat.blt_eq] at nB jw;have hl:(gl i j st).bx.length=st.bx.length:=by simp only [gl,fF,eK]
 exact CallG.Ht i j (Fx nB jw).symm (jW args).symm Od DU (by rw [hl];exact hi) (by rw [hl];exact hj) h hX
theorem Il {P:Program} {t e:TypeId} (hu:P.underlying t=some (.slice e)) (d:Nat) (x:Option Addr) (n c:Nat) (w:World):(Op.equalIn (d + 1) t (.slice x n c) (.slice none 0 0)).run P w = .ok x.isNone w:=by
 cases x<;>simp [Op.equalIn,run_underlying hu]
theorem Qw {P:Program} {t e:TypeId} (hu:P.underlying t=some (.slice e)) (x:Option Addr) (n c:Nat) (w:World):(Op.equal t (.slice x n c) (.slice none 0 0)).run P w = .ok x.isNone w:=Il hu 9999 x n c w
theorem Qx {t d e:Nat} {x:Operand} {es:List (List DV)} {tk:Option Nat} {n et e' jS:Nat} {bb:Bool} {z:List Value} (hop:∃ t',o.op = .binOp .eql t x (.const (.slice none 0 0)) t') (kh:o.dst=some d) (hx:rv st [] x=some (.sl e es tk)) (hT:X.T.find t=some ⟨n,bb,.sl et e' jS,z⟩) (hd:eV X.nt st.sl (some d)=true)
  (hk:∀ b:Bool,(es ≠ []->b=false)->go X 4000 k ⟨(d,⟨[],.v (.bool b)⟩) :: st.sl,st.bx,st.tk⟩):W0 X o k st:=by
 intro E a w h;obtain ⟨t',hop⟩:=hop;have e1:=bc h.rl hx;unfold Rv at e1;obtain ⟨b,m,cap,e1,⟨rfl,_⟩,hr,_⟩:=e1;obtain ⟨hu,_⟩:=fo X.hT hT;have bN:=Qw hu b es.length cap w
 have bS:(execOp a.eval o).run X.P w = .ok (.value (.bool b.isNone)) w:=by
  have hc:a.eval (.const (.slice none 0 0)) = .slice none 0 0:=rfl;simp [execOp,hop,e1,hc,eqGuard,binOp,bN]
 refine lM bS ?_;rw [kh];refine go_sound 4000 _ _ (hk b.isNone fun bo=>?_) E _ w (bh h hd (.v (.bool b.isNone)) _ (by unfold Rv;exact ⟨rfl,rfl⟩));have:=nT (hr bo).1;rw [this];rfl
theorem acI {t d et e jS n:Nat} {bb:Bool} {z:List Value} (hop:o.op = .buildSlice t 0 #[]) (kh:o.dst=some d) (hT:X.T.find t=some ⟨n,bb,.sl et e jS,z⟩) (hd:eV X.nt st.sl (some d)=true) (bp:X.still=false:=by exact rfl) (hX:X.bt=[]:=by exact rfl) :
  OpS X o st ⟨(d,⟨[],.sl e [] (some st.tk.length)⟩) :: st.sl,st.bx,st.tk ++ [⟨0,et,e,none⟩]⟩:=by
 intro E a w h;obtain ⟨hu,ii,zv,v7,hz,di,zh,NH⟩:=fo X.hT hT;have nJ:iA X.P et=some e:=by rw [fO v7,di]
 have bS:(execOp a.eval o).run X.P w = .ok (.value (.slice (some ⟨w.heap.size,0,none⟩) 0 0)) (w.alloc (.cells #[] et)):=by
  have h1:(Instr.buildSlice t 0 #[]).run X.P w = .ok (.slice (some ⟨w.heap.size,0,none⟩) 0 0) (w.alloc (.cells #[] et)):=by
   have h0:Array.range 0 = #[]:=rfl;simp [Instr.buildSlice,run_underlying hu,aV nJ,Instr.fill,newRow,h0]
  simp only [execOp,hop,List.map_toArray,List.map_nil,Sem.run_bind,h1,Result.andThen_ok,Sem.run_pure]
 refine ej bS ?_;rw [kh];have qL:=h.env.gW (w':=w.alloc (.cells #[] et)) fun i hi=>alloc_old w _ hi
 let E2:En:=⟨E.c,E.β,E.tk ++ [⟨0,et,e,none⟩],E.τ ++ [.slice (some ⟨w.heap.size,0,none⟩) 0 0]⟩
 have hext:Ext E E2:=⟨fun _ _ h=>h,fun _ _ h=>h,fun k q' hk=>by
  have aE:=(gS hk).1;refine ⟨q',by show (E.tk ++ _)[k]? = _;rw [ei aE];exact hk,.inl ⟨rfl,?_⟩⟩;show (E.τ ++ _)[k]? = _
  rw [ei (by rw [h.env.tl];exact aE)]⟩
 have hτ:∀ (k:Nat) y,E2.τ[k]? = some y->(k < E.τ.length/\E.τ[k]? = some y)∨(k=E.τ.length/\y = .slice (some ⟨w.heap.size,0,none⟩) 0 0):=fun k y hy=>by grind
 have dG:∀ (k:Nat) y g,E.τ[k]? = some y->y.ownBlock=some g->g < w.heap.size:=fun k y g hy hg=>(h.env.own (mG hy) hg).1
 have cm:Rel X E2 ⟨st.sl,st.bx,st.tk ++ [⟨0,et,e,none⟩]⟩ a (w.alloc (.cells #[] et)):=by
  refine dr h hext ?_ (by show E.tk ++ _=_;rw [h.tk]) ?_ (h.fr.alloc _) (mJ bp) (.nil hX)
  ·exact {
    len:=h.env.len
    tl:=by show (E.τ ++ _).length=(E.tk ++ _).length;simp [h.env.tl]
    dY:=fun i cs hi=>by
     obtain ⟨b,t,arr,hb,hw,hc⟩:=qL.dY i cs hi;exact ⟨b,t,arr,hb,hw,hc.mono hext⟩
    inj:=h.env.inj
    sub:=qL.sub
    pc:=h.env.pc
    c9:=fun k q' y hkq hy=>by
     rcases hτ k y hy with ⟨aE,iv⟩ | ⟨rfl,rfl⟩
     ·have gU:(E.tk ++ [⟨0,et,e,none⟩])[k]? = some q':=hkq;rw [ei (by rw [<- h.env.tl];exact aE)] at gU;exact qL.c9 k q' y gU iv
     ·have gU:(E.tk ++ [⟨0,et,e,none⟩])[E.τ.length]? = some q':=hkq;rw [List.getElem?_append_right (by rw [h.env.tl];exact bn _),h.env.tl] at gU;simp only [Nat.sub_self,List.getElem?_cons_zero,oI] at gU;subst gU;refine .inr ⟨w.heap.size,0,#[],rfl,gI w _,⟨by simp,qR.none rfl⟩,bn _,Nat.zero_le _,fun hm=>?_,fun x v hx GZ=>?_⟩
      ·have:=h.env.bm hm;omega
      ·have:=World.block_lt_of_cell? w x (h.env.sub x v hx);omega
    iB:=fun k k' y y' g GY hy iv hg vY=>by
     rcases hτ k y hy with ⟨_,zt⟩ | ⟨rfl,rfl⟩
     ·rcases hτ k' y' iv with ⟨_,mK⟩ | ⟨rfl,rfl⟩
      ·exact h.env.iB k k' y y' g GY zt mK hg vY
      ·have:=dG k y g zt hg;simp only [Value.ownBlock,oI] at vY;omega
     ·rcases hτ k' y' iv with ⟨_,mK⟩ | ⟨rfl,rfl⟩
      ·have:=dG k' y' g mK vY;simp only [Value.ownBlock,oI] at hg;omega
      ·exact GY rfl }
  ·exact {
    c:=h.nw.c
    cn:=h.nw.cn
    β:=h.nw.β
    tk:=fun j q0 y0 DP Hc=>by
     obtain ⟨q',y',h1,h2,h3⟩:=h.nw.tk j q0 y0 DP Hc
     grind
    tn:=fun j y g hj hy hg=>by
     rcases hτ j y hy with ⟨_,zt⟩ | ⟨_,rfl⟩
     ·exact h.nw.tn j y g hj zt hg
     ·simp only [Value.ownBlock,oI] at hg;have:=h.fr.size;omega
    l0:=h.nw.l0 }
 refine ⟨E2,bh cm hd (.sl e [] (some st.tk.length)) _ ?_,hext,⟨[],by simp [E2]⟩,fun i b hb _=>alloc_old w _ (h.env.bm (mG hb))⟩;unfold Rv;refine ⟨_,0,0,rfl,⟨rfl,bn _⟩,fun hn=>(hn rfl).elim,fun k' gU=>?_⟩;cases gU;refine ⟨⟨0,et,e,none⟩,?_,bn _,fun _=>?_⟩
 ·show (E.tk ++ _)[st.tk.length]? = _;rw [h.tk];simp
 ·show (E.τ ++ _)[st.tk.length]? = _;rw [<- h.tk,<- h.env.tl];simp
theorem Fy {t d et e jS n:Nat} {bb:Bool} {z:List Value} (hop:o.op = .buildSlice t 0 #[]) (kh:o.dst=some d) (hT:X.T.find t=some ⟨n,bb,.sl et e jS,z⟩) (hd:eV X.nt st.sl (some d)=true) (bp:X.still=false:=by exact rfl) (hX:X.bt=[]:=by exact rfl)
  (hk:go X 4000 k ⟨(d,⟨[],.sl e [] (some st.tk.length)⟩) :: st.sl,st.bx,st.tk ++ [⟨0,et,e,none⟩]⟩):W0 X o k st:=(acI hop kh hT hd bp hX).g hk
theorem Wk.NR {st':St} (N:Nat) (hN:Nat.ble X.n0 N=true) (hNl:Nat.ble N st.bx.length=true) (kN:kZ st.bx N N st.tk.length st'.bx (st.bx.take N)) (gj:st'.tk=st.tk) (v8:OD st.bx N st.tk.length st.sl st'.sl):Wk X st st':=fun _ _ _ h=>
 JI h N (nL hN) (nL hNl) kN gj v8
theorem Kk (h:Rel X E st a w) (bp:X.still=false) (hX:X.bt=[]) {g n ty e cap:Nat} {cur:Array Value} (hw:w.heap[g]? = some (.cells cur ty (0,0))) (di:cur.size=cap * e) (hn:n<=cap) (B9:cap<=maxLen) (hb:g ∉ E.β)
  (hc:∀ x v,E.c x=some v->x.block=g->x.off < n * e) (dG:∀ (k:Nat) y,E.τ[k]? = some y->y.ownBlock≠some g) (hg:X.w0.heap.size<=g) :
  Rel X ⟨E.c,E.β,E.tk ++ [⟨n,ty,e,none⟩],E.τ ++ [.slice (some ⟨g,0,none⟩) n cap]⟩ ⟨st.sl,st.bx,st.tk ++ [⟨n,ty,e,none⟩]⟩ a w:=by
 let E2:En:=⟨E.c,E.β,E.tk ++ [⟨n,ty,e,none⟩],E.τ ++ [.slice (some ⟨g,0,none⟩) n cap]⟩
 have hext:Ext E E2:=⟨fun _ _ h=>h,fun _ _ h=>h,fun k q' hk=>by
  have aE:=(gS hk).1;refine ⟨q',by show (E.tk ++ _)[k]? = _;rw [ei aE];exact hk,.inl ⟨rfl,?_⟩⟩;show (E.τ ++ _)[k]? = _
  rw [ei (by rw [h.env.tl];exact aE)]⟩
 have hτ:∀ (k:Nat) y,E2.τ[k]? = some y->(k < E.τ.length/\E.τ[k]? = some y)∨(k=E.τ.length/\y = .slice (some ⟨g,0,none⟩) n cap):=fun k y hy=>by grind
 refine dr h hext ?_ (by show E.tk ++ _=_;rw [h.tk]) ?_ h.fr (mJ bp) (.nil hX)
 ·exact {
   len:=h.env.len
   tl:=by show (E.τ ++ _).length=(E.tk ++ _).length;simp [h.env.tl]
   dY:=fun i cs hi=>by
    obtain ⟨b,t,arr,hb,hw,hc⟩:=h.env.dY i cs hi;exact ⟨b,t,arr,hb,hw,hc.mono hext⟩
   inj:=h.env.inj
   sub:=h.env.sub
   pc:=h.env.pc
   c9:=fun k q' y hkq hy=>by
    rcases hτ k y hy with ⟨aE,iv⟩ | ⟨rfl,rfl⟩
    ·have gU:(E.tk ++ [⟨n,ty,e,none⟩])[k]? = some q':=hkq;rw [ei (by rw [<- h.env.tl];exact aE)] at gU;exact h.env.c9 k q' y gU iv
    ·have gU:(E.tk ++ [⟨n,ty,e,none⟩])[E.τ.length]? = some q':=hkq;rw [List.getElem?_append_right (by rw [h.env.tl];exact bn _),h.env.tl] at gU;simp only [Nat.sub_self,List.getElem?_cons_zero,oI] at gU;subst gU;exact .inr ⟨g,cap,cur,rfl,hw,⟨di,fun cs h=>by cases h⟩,hn,B9,hb,hc⟩
   iB:=fun k k' y y' g' GY hy iv pI Vr=>by
    rcases hτ k y hy with ⟨_,zt⟩ | ⟨rfl,rfl⟩
    ·rcases hτ k' y' iv with ⟨_,mK⟩ | ⟨rfl,rfl⟩
     ·exact h.env.iB k k' y y' g' GY zt mK pI Vr
     ·simp only [Value.ownBlock,oI] at Vr;subst Vr;exact dG k y zt pI
    ·rcases hτ k' y' iv with ⟨_,mK⟩ | ⟨rfl,rfl⟩
     ·simp only [Value.ownBlock,oI] at pI;subst pI;exact dG k' y' mK Vr
     ·exact GY rfl }
 ·exact {
   c:=h.nw.c
   cn:=h.nw.cn
   β:=h.nw.β
   tk:=fun j q0 y0 DP Hc=>by
    obtain ⟨q',y',h1,h2,h3⟩:=h.nw.tk j q0 y0 DP Hc
    grind
   tn:=fun j y g' hj hy vY=>by
    rcases hτ j y hy with ⟨_,zt⟩ | ⟨_,rfl⟩
    ·exact h.nw.tn j y g' hj zt vY
    ·simp only [Value.ownBlock,oI] at vY;omega
   l0:=h.nw.l0 }
theorem YD {t d et e jS n len:Nat} {bb:Bool} {z:List Value} {parts:Array (Nat × Operand)} {es:List (List DV)} (hop:o.op = .buildSlice t len parts) (kh:o.dst=some d) (hT:X.T.find t=some ⟨n,bb,.sl et e jS,z⟩) (px:litL e st parts.toList 0=some es)
  (hc:(Nat.beq es.length len && (Nat.blt 0 len && Nat.blt 0 e && Nat.ble (len * e) 16777216))=true) (hd:eV X.nt st.sl (some d)=true) (bp:X.still=false:=by exact rfl) (hX:X.bt=[]:=by exact rfl)
  (hk:go X 4000 k ⟨(d,⟨[],.sl e es (some st.tk.length)⟩) :: st.sl,st.bx,st.tk ++ [⟨len,et,e,none⟩]⟩):W0 X o k st:=by
 intro E a w h;simp only [bg,Nat.beq_eq,Nat.ble_eq,Nat.blt_eq] at hc;obtain ⟨hlen,⟨nK,DX⟩,hsm⟩:=hc;obtain ⟨hu,ii,zv,v7,hz,di,zh,NH⟩:=fo X.hT hT;obtain ⟨xs,vs,hp,va,we,fD,Xi,Hh⟩:=p9 h.rl DX px;subst di
 have Lj:len * ii.size≠0:=by
  have:=Nat.mul_pos nK DX;omega
 have lG:Instr.fill (fun i=>some (i * ii.size,ii.size)) ((Array.range (len * ii.size)).map (zv.cells[·% zv.cells.size]!)) (parts.map fun (i,x)=>(i,a.eval x)).toList=some (cellsL vs).toArray:=by
  have h0:=qP ii.size vs 0 ((Array.range (len * ii.size)).map (zv.cells[·% zv.cells.size]!)).toList fD (by simp [we,hlen])
  have h1:(parts.map fun (i,x)=>(i,a.eval x)).toList=enumF 0 vs:=by
   rw [Array.toList_map,hp,va,<- sw]
  rw [h1];simp only [Array.toArray_toList] at h0;rw [h0];simp [we,hlen]
 have bS:(execOp a.eval o).run X.P w = .ok (.value (.slice (some ⟨w.heap.size,0,none⟩) len len)) (w.alloc (.cells (cellsL vs).toArray et)):=by
  simp only [execOp,hop,Sem.run_bind,run_buildSlice w t et len _ _ ii zv hu v7 hz (by omega) Lj lG,Result.andThen_ok,Sem.run_pure]
 refine lM bS ?_;rw [kh];have hr:=sC (arr:=cellsL vs) h bp et
 have Fz:(cellsL vs).length=len * ii.size:=by
  have:∀ l:List Value,(∀ v∈l,v.cells.toList.length=ii.size)->(cellsL l).length=l.length * ii.size:=by
   intro l
   induction l with
   | nil=>intro _;simp [cellsL]
   | cons v l ih=>grind [cellsL]
  rw [this vs fD,we,hlen]
 have j8:=Kk (n:=len) (ty:=et) (e:=ii.size) (cap:=len) hr bp hX (g:=w.heap.size) (cur:=(cellsL vs).toArray) (gI w _) (by simp [Fz]) (bn _) (by
   have:len<=len * ii.size:=Nat.le_mul_of_pos_right _ DX;unfold maxLen;omega) (fun hm=>by have:=h.env.bm hm;omega) (fun x v hx GZ=>by
   have hx:eW E.c (w.alloc (.cells (cellsL vs).toArray et)) w.heap.size (cellsL vs).length x=some v:=hx;unfold eW at hx;split at hx
   ·rename_i hc;rw [<- Fz];exact hc.2.2
   ·have:=World.block_lt_of_cell? w x (h.env.sub x v hx);omega) (fun j y hy hg=>by
   have:=(h.env.own (mG hy) hg).1
   omega) (h.fr.size)
 refine go_sound 4000 _ _ hk _ _ _ (bh j8 hd (.sl ii.size es (some st.tk.length)) _ ?_);unfold Rv;refine ⟨_,_,_,rfl,⟨hlen.symm,bn _⟩,fun bo=>⟨rfl,?_⟩,fun k' gU=>?_⟩
 ·have jk:∀ x v,E.c x=some v->eW E.c (w.alloc (.cells (cellsL vs).toArray et)) w.heap.size (cellsL vs).length x=some v:=fun x v hx=>by
   have aE:=World.block_lt_of_cell? w x (h.env.sub x v hx);unfold eW;rw [ag (by omega)];exact hx
  have hm:RvC (En.cl ⟨eW E.c (w.alloc (.cells (cellsL vs).toArray et)) w.heap.size (cellsL vs).length,E.β,E.tk,E.τ⟩) es.flatten (cellsL vs):=Xi.mono (Ext.SN (E:=E) jk);refine rvEs_flat hm Hh fun j u hj=>?_;show eW _ _ _ _ _=_;have jw:=(gS hj).1;simp only [ab,ao,Nat.zero_add];rw [vw jw,cJ (gI w _)];simpa using hj
 ·cases gU;refine ⟨⟨len,et,ii.size,none⟩,?_,bn _,fun _=>?_⟩
  ·show (E.tk ++ _)[st.tk.length]? = _;rw [h.tk];simp
  ·show (E.τ ++ _)[st.tk.length]? = _;rw [<- h.tk,<- h.env.tl];simp
end
end Dv
end Go.Proofs.YtfdedoiiahbnnaaGreat
set_option maxRecDepth 100000
namespace Go.Proofs.YtfdedoiiahbnnaaGreat
open Go Go.RowKit Dv Go.Proofs.Tryz
theorem xU {l:List Wd} {o:List (Wd × Wd)} (h:(latF l o).1=0):(jA l o).1=0/\(enumL l 0 l).1=0/\(numF (aO l) o).1=0/\dh (xF l.length (jL l.length (fT (aO l) o))) l.length=none/\dh (rK (jL l.length (fT (aO l) o)) l.length) l.length=none:=by grind [latF]
theorem jt {p:Nat->Bool} {n:Nat} (h:dh p n=none):∀ a,a < n->p a=false:=by grind [dh]
theorem xV {l:List Wd} {o:List (Wd × Wd)} (h:(latF l o).1=0):kv (jL l.length (fT (aO l) o)) l.length/\l.length<=32:=by
 obtain ⟨h1,h2,h3,h4,h5⟩:=xU h;have hP:=vC h3;rw [gn] at hP
 have zm:l ≠ []:=by
  rintro rfl;simp [jA] at h1
 have YE:l.length<=32:=by grind [jA]
 have hlk:∀ a b,a < l.length->b < l.length->om (jL l.length (fT (aO l) o)) l.length a b=false:=by
  have key:∀ a b,a<=b->b < l.length->om (jL l.length (fT (aO l) o)) l.length a b=false:=fun a b Af hb=>by grind [jt,rK]
  intro a b ha hb;rcases Nat.le_total a b with h | h
  ·exact key a b h hb
  ·grind [om,xH,xI]
 refine ⟨{
  pos:=List.length_pos_iff.2 zm
  rfl':=fun a ha=>AB hP ha
  tr:=fun a b c ha hb hc=>HY hP ha hb hc
  Yu:=fun a b ha hb h6 h7=>by grind [jt,xF]
  jn:=fun a b ha hb=>by
   have:=hlk a b ha hb;unfold om at this;simp only [Bool.or_eq_false_iff,Option.isNone_eq_false_iff] at this;exact Option.isSome_iff_exists.1 this.1
  mt:=fun a b ha hb=>by
   have:=hlk a b ha hb;unfold om at this;simp only [Bool.or_eq_false_iff,Option.isNone_eq_false_iff] at this
   exact Option.isSome_iff_exists.1 this.2 },YE⟩
def eD (s:Sch) (aN:List Nat) (js:List Int):Lx:=⟨aO s.ae,aN,closeR (fJ s.ae.length (fT (aO s.ae) s.order)) s.ae.length,js,jL s.ae.length (fT (aO s.ae) s.order)⟩
theorem Uh {s:Sch} {d:DV} (h:(latF s.ae s.order).1=0) (hd:Ys s.ae s.order d) (hw:s.ae.length<=1099511627776):∃ aN js,(eD s aN js).OK/\d=(eD s aN js).pd:=by
 obtain ⟨aN,js,hT,mB,vZ,CF,rfl⟩:=hd;obtain ⟨h1,h2⟩:=xV h;refine ⟨aN,js,⟨hT,by show aN.length<=_;omega,?_,?_,?_⟩,rfl⟩
 ·show kv _ (aO s.ae).length;rw [gn];exact h1
 ·show (aO s.ae).length<=32;rw [gn];exact h2
 ·show ∀ x y,x < (aO s.ae).length->y < (aO s.ae).length->JM _ (aO s.ae).length js x y;rw [gn];exact CF
def eH (s:Sch) (l:List Wd):Int:=Fi (jL s.ae.length (fT (aO s.ae) s.order)) (aO s.ae) l
def vG (s:Sch) (t:Ty):Ft:=knT ⟨aO s.ae,[],[],[],fun _ _=>false⟩ (tL s) t
mutual
theorem AX {X Y:Lx} (h:X.af=Y.af) (L:List ByteArray):∀ t:Ty,knT X L t=knT Y L t
 | .mk h1 ps=>by rw [knT,knT,AY h L ps]
theorem AY {X Y:Lx} (h:X.af=Y.af) (L:List ByteArray):∀ ps:Pts,knP X L ps=knP Y L ps
 | .nil=>by rw [knP,knP]
 | .cons p t r=>by
  rw [knP,knP,AY h L r,AX h L t];unfold Lx.bad;rw [h]
end
theorem YF (s:Sch) (aN:List Nat) (js:List Int) (t:Ty):knT (eD s aN js) (tL s) t=vG s t:=AX (X:=eD s aN js) (Y:=⟨aO s.ae,[],[],[],fun _ _=>false⟩) rfl (tL s) t
def kI (s:Sch):Ft:=
 if (latF s.ae s.order).1≠0 then latF s.ae s.order
 else if (gH s).1≠0 then gH s
 else if (eaR s.root s.types 0).1.1≠0 then (eaR s.root s.types 0).1
 else if (eaL (vG s) (vG s s.root) s.types).1≠0 then eaL (vG s) (vG s s.root) s.types
 else loopF s
def ndsAll (lev:List Wd->Int) (s:Sch):List (Wd × Ty)->Nat->List Nd
 | [],_=>[]
 | x :: r,k=>ndsT lev s x.2 k ++ ndsAll lev s r (k + x.2.nn)
def tz (s:Sch):List Nd:=ndsAll (eH s) s s.types 0
def aW (s:Sch):List Nd:=tz s ++ ndsT (eH s) s s.root (tz s).length
def il (s:Sch):Int:=vm s s.root (tz s).length
def Ww (s:Sch) (aN lk:List Nat) (js:List Int):List DV:=
 [(eD s aN js).pd,.sl 7 (dW (aW s)) none,.v (.int .i64 (il s)),.pt (dm (tL s) lk) 0,.sl 1 (dInts (namedL s)) none]
def Qy (s:Sch) (d:DV):Prop:=∃ aN lk js,(eD s aN js).OK/\iy (tL s) lk/\lk.length<=s.types.length/\d = .pt (Ww s aN lk js) 0
def Im (s:Sch) (r:DV) (_:List (List DV)) (_:List TkE):Prop:=
 if (kI s).1≠0 then r = .bK [.v (.pointer none),(kI s).d] else ∃ d,Qy s d/\r = .bK [d,Ft.d (0,0)]
theorem ov {s:Sch} {f:Ft} {os:List (List DV)} {tk:List TkE} (h:kI s=f) (hf:f.1≠0):Im s (.bK [.v (.pointer none),f.d]) os tk:=by
 unfold Im;rw [h,ah hf]
theorem Ui {s:Sch} {d:DV} {os:List (List DV)} {tk:List TkE} (h:(kI s).1=0) (hd:Qy s d):Im s (.bK [d,Ft.d (0,0)]) os tk:=by grind [Im]
theorem Qz {F:Ty->Ft} {z:Ft}:∀ {l:List (Wd × Ty)},(eaL F z l).1=0->z.1=0/\∀ x∈l,(F x.2).1=0
 | [],h=>⟨h,fun x hx=>by cases hx⟩
 | x :: r,h=>by
  rw [eaL] at h;split at h
  ·rename_i h1;exact (h1 h).elim
  ·rename_i h1;obtain ⟨h2,h3⟩:=Qz h
   grind
theorem QA {z:Ty}:∀ {l:List (Wd × Ty)} {m:Int},0<=m->(eaR z l m).1.1=0->(wrong z 1 0).1.1=0/\(∀ x∈l,(wrong x.2 1 0).1.1=0)/\(eaR z l m).2=m + ((l.map fun x=>x.2.cnt).sum + z.cnt:Nat)/\(eaR z l m).2<=512
 | [],m,_,h=>by grind [eaR,oX]
 | x :: r,m,hm,h=>by
  rw [eaR] at h ⊢;split at h
  ·rename_i h1;exact (h1 h).elim
  ·rename_i h1;rw [ag h1];obtain ⟨g1,g2,g3,_⟩:=oX (sU h1);obtain ⟨h2,h3,h4,h5⟩:=QA (by omega) h
   grind
theorem xW (lev:List Wd->Int) (s:Sch):∀ (l:List (Wd × Ty)) (k:Nat),(ndsAll lev s l k).length=(l.map fun x=>x.2.nn).sum
 | [],_=>rfl
 | x :: r,k=>by simp only [ndsAll,List.length_append,mb,xW lev s r,List.map_cons,List.sum_cons]
theorem xX:∀ l:List (Wd × Ty),(l.map fun x=>x.2.nn).sum<=(l.map fun x=>x.2.cnt).sum
 | []=>bn _
 | x :: r=>by
  have:=x.2.jr;have:=xX r
  grind
theorem AZ:∀ l:List Nd,(dW l).flatten.length=l.length * 7
 | []=>rfl
 | a :: r=>by
  have:=AZ r;simp only [dW,List.map_cons,List.flatten_cons,List.length_append,List.length_cons] at this ⊢;rw [this];simp only [NV,List.length_cons,List.length_nil];omega
theorem Uj {X:Lx} {s:Sch} {t:Ty} (h:(knT X (tL s) t).1=0):Mt s t=true:=by
 obtain ⟨hd,ps⟩:=t;have:=(xS h).1;unfold Mt;exact decide_eq_true this
theorem FA {s:Sch} (h:(loopF s).1=0):∀ i,i < s.types.length->∃ k,endI s (s.types.length + 1) i=some k:=by
 intro i hi;unfold loopF at h;split at h
 ·rename_i h1;have:=jt h1 i hi;simp only [Option.isNone_eq_false_iff] at this;exact Option.isSome_iff_exists.1 this
 ·cases h
abbrev QB (s:Sch) (aN:List Nat) (lc:List DV) (m:Int) (f1 f2:Int) (n:Nat) (base:List DV) (e:Nat):St:=
 ⟨[bq 1 4,bq 3 3,bq 6 0,dH 59 11 (dNms s.types),aJ 60 ((dNms s.types).length),aJ 61 e],
  [bC s (.pt lc 0) (.loc 1 0) m,NW s aN lc n,[.v (.int .i64 f1),.v (.int .i64 f2)],[.v (.int .i64 0),.v (.int .i64 0)],iG s],[Ih n base]⟩
theorem Io (s:Sch) (hs:s.wt<=1099511627776):Ev prog 26 [.agg (iG s)] [] [] (Im s):=by
 have hF:=kI.eq_1 s;have hw:=hs;simp only [Sch.wt] at hw;have Z5:=cE s.ae;have Qu:=jU s.types;have LG:=Fg s.ae s.order (by omega) (by omega);have vg:=fun lc=>CJ s lc (by omega)
 have cV:∀ t,(t=s.root∨∃ x∈s.types,t=x.2)->t.wt<=1099511627776:=fun t ht=>by
  rcases ht with rfl | ⟨x,hx,rfl⟩
  ·omega
  ·have:=gM hx;omega
 have acK:=fun lc aN=>Ie s lc aN 0 (by omega) (by omega) (by omega) cV;have acL:=fun (X:Lx) (hX:X.OK) (aN:List Nat) (hT:iy (tL s) aN) (mB:aN.length<=1099511627776) (m:Int)=>Mu s X.pd (Ic s aN (iL X.af (dm X.af X.aN) X.rows X.js)) m (by omega) 65 XR (knT X (tL s)) (fun t ht=>xQ hX s aN (.pt (iL X.af (dm X.af X.aN) X.rows X.js) 0) (.v (.slice none 0 0)) (.v (.int .i64 0)) (.v (.slice none 0 0)) m hT mB t.wt t (bn _) (cV t ht));have YG:(gH s).1=0->s.types.length<=64:=fun h=>by grind [gH]
 have hLx:=fun d h hd=>@Uh s d h hd (by omega);have Wx:=fun (lat:DV) (aN:List Nat) (a b c e0:DV) (m:Int)=>Ib s lat aN a b c e0 m;have QC:=fun (lc:List DV) (aN:List Nat) (m:Int)=>Fq s lc aN m;have rP:=fun (X:Lx) (hX:X.OK) (aN:List Nat) (m:Int) (hT:iy (tL s) aN) (mB:aN.length<=1099511627776) (t:Ty) (ht:t.wt<=1099511627776)=>AR hX s aN m hT mB t.wt t (bn _) ht;refine eG 85 [.tmp 2,.cell 3 26] func26 rfl ntmps26 rfl fun _ _ _ _=>?_;generalize hS:s=S at *;obtain ⟨ae,order,types,⟨rh,rp⟩⟩:=s;subst hS;refine eo en61 rfl LG ax (fun r hr=>?_);by_cases hL:(latF ae order).1≠0
 ·have hL':=hL;rw [ah (show (latF (Sch.mk ae order types (.mk rh rp)).ae (Sch.mk ae order types (.mk rh rp)).order).1≠0 from hL)] at hF;unfold H5 at hr;rw [ah (show (latF (Sch.mk ae order types (.mk rh rp)).ae (Sch.mk ae order types (.mk rh rp)).order).1≠0 from hL)] at hr;subst hr;refine br ?_ ?_<;>intro h
  ·refine dS ?_;exact ⟨_,ax,ov (os:=[]) (tk:=[]) hF hL⟩
  ·exfalso;simp at h;exact hL h
 unfold H5 at hr;rw [ag (show ¬ (latF (Sch.mk ae order types (.mk rh rp)).ae (Sch.mk ae order types (.mk rh rp)).order).1≠0 from hL)] at hF hr;obtain ⟨d,hd,rfl⟩:=hr;have hL0:(latF ae order).1=0:=sU hL;obtain ⟨aN,js,hX,rfl⟩:=hLx d hL0 hd;generalize hXX:eD ⟨ae,order,types,.mk rh rp⟩ aN js=X at hX;refine br (fun h=>?_) (fun _=>?_)
 ·exfalso;simp at h;exact hL h
 refine CallG.Ik 0 4 rfl rfl rfl rfl (CallG.Ik 1 3 rfl rfl rfl rfl ?_);refine fw 2 0 en62 rfl rfl rfl bB bB (vg (iL X.af (dm X.af X.aN) X.rows X.js)) (fun r eO cA hΦ h1 h2=>?_);obtain ⟨rfl,LJ⟩:=hΦ;have h2:=List.eq_nil_of_length_eq_zero h2;subst h2;by_cases Kg:(gH ⟨ae,order,types,.mk rh rp⟩).1≠0
 ·rw [ah Kg] at hF
  obtain ⟨a,b,rfl⟩:∃ a b,eO=[a,b]:=by
   match eO,h1 with
   | [a,b],_=>exact ⟨a,b,rfl⟩
  refine br ?_ ?_<;>intro h
  ·refine dS ?_;exact ⟨_,ax,ov (os:=[]) (tk:=[]) hF Kg⟩
  ·exfalso;simp at h;exact Kg h
 rw [ag Kg] at hF;have acM:(gH ⟨ae,order,types,.mk rh rp⟩).1=0:=sU Kg;have QD:=YG acM;obtain ⟨lk,hT,mB,rfl⟩:=LJ acM;refine br (fun h=>?_) (fun _=>?_)
 ·exfalso;simp at h;exact Kg h
 refine fw 2 0 aaS rfl rfl rfl bB bB (acK (iL X.af (dm X.af X.aN) X.rows X.js) lk) (fun r eO cA hΦ h1 h2=>?_);obtain ⟨rfl,rfl⟩:=hΦ;have h2:=List.eq_nil_of_length_eq_zero h2;subst h2;by_cases hR:(eaR (.mk rh rp) types 0).1.1≠0
 ·rw [ah (show (eaR (Sch.mk ae order types (.mk rh rp)).root (Sch.mk ae order types (.mk rh rp)).types 0).1.1≠0 from hR)] at hF;refine br ?_ ?_<;>intro h
  ·refine dS ?_;exact ⟨_,ax,ov (os:=[]) (tk:=[]) hF hR⟩
  ·exfalso;simp at h;exact hR h
 rw [ag (show ¬ (eaR (Sch.mk ae order types (.mk rh rp)).root (Sch.mk ae order types (.mk rh rp)).types 0).1.1≠0 from hR)] at hF;have hR0:(eaR (.mk rh rp) types 0).1.1=0:=sU hR;refine br (fun h=>?_) (fun _=>?_)
 ·exfalso;simp at h;exact hR h
 have hea:=acL X hX lk hT (by have:types.length<=64:=QD;have:lk.length<=types.length:=mB;omega) (eaR (.mk rh rp) types 0).2;have YH:∀ t,knT X (tL ⟨ae,order,types,.mk rh rp⟩) t=vG ⟨ae,order,types,.mk rh rp⟩ t:=fun t=>by rw [<- hXX];exact YF _ _ _ t
 have hfeq:eaL (knT X (tL ⟨ae,order,types,.mk rh rp⟩)) (knT X (tL ⟨ae,order,types,.mk rh rp⟩) (.mk rh rp)) types=eaL (vG ⟨ae,order,types,.mk rh rp⟩) (vG ⟨ae,order,types,.mk rh rp⟩ (.mk rh rp)) types:=by
  rw [show knT X (tL ⟨ae,order,types,.mk rh rp⟩)=vG ⟨ae,order,types,.mk rh rp⟩ from funext YH]
 refine J6 aaS hea ax rfl rfl ?_;by_cases hK:(eaL (vG ⟨ae,order,types,.mk rh rp⟩) (vG ⟨ae,order,types,.mk rh rp⟩ (.mk rh rp)) types).1≠0
 ·rw [ah (show (eaL (vG ⟨ae,order,types,.mk rh rp⟩) (vG ⟨ae,order,types,.mk rh rp⟩ (Sch.mk ae order types (.mk rh rp)).root) (Sch.mk ae order types (.mk rh rp)).types).1≠0 from hK)] at hF;refine br ?_ ?_<;>intro h
  ·refine dS ?_;refine ⟨.bK [.v (.pointer none),(eaL (knT X (tL ⟨ae,order,types,.mk rh rp⟩)) (knT X (tL ⟨ae,order,types,.mk rh rp⟩) (.mk rh rp)) types).d],ax,?_⟩;rw [hfeq];exact ov (os:=[]) (tk:=[]) hF hK
  ·grind
 rw [ag (show ¬ (eaL (vG ⟨ae,order,types,.mk rh rp⟩) (vG ⟨ae,order,types,.mk rh rp⟩ (Sch.mk ae order types (.mk rh rp)).root) (Sch.mk ae order types (.mk rh rp)).types).1≠0 from hK)] at hF;have hK0:(eaL (vG ⟨ae,order,types,.mk rh rp⟩) (vG ⟨ae,order,types,.mk rh rp⟩ (.mk rh rp)) types).1=0:=sU hK;refine br (fun h=>?_) (fun _=>?_)
 ·grind
 have lL:wdsWt ae + prsWt order + nmsWt types + (Ty.mk rh rp).wt<=1099511627776:=hw;have hnmw:nmsWt types<=1099511627776:=by omega
 obtain ⟨hkr,DW⟩:=Qz hK0;have hkr':(knT X (tL ⟨ae,order,types,.mk rh rp⟩) (.mk rh rp)).1=0:=by rw [YH];exact hkr
 have acN:∀ x∈types,(knT X (tL ⟨ae,order,types,.mk rh rp⟩) x.2).1=0:=fun x hx=>by rw [YH];exact DW x hx
 have acO:∀ x∈types,Mt ⟨ae,order,types,.mk rh rp⟩ x.2=true:=fun x hx=>Uj (acN x hx);have Uk:lk.length<=1099511627776:=by have:types.length<=64:=QD;have:lk.length<=types.length:=mB;omega
 refine J6 en66 (Wx X.pd lk X.pd (.v (.slice none 0 0)) (.v (.int .i64 0)) (.v (.slice none 0 0)) (eaR (.mk rh rp) types 0).2 hT Uk QD acO) ax rfl rfl ?_;by_cases hO:(loopF ⟨ae,order,types,.mk rh rp⟩).1≠0
 ·refine br ?_ ?_<;>intro h
  ·refine dS ?_;exact ⟨_,ax,ov (os:=[]) (tk:=[]) hF hO⟩
  ·exfalso;simp at h;exact hO h
 have hO0:(loopF ⟨ae,order,types,.mk rh rp⟩).1=0:=sU hO;have hF0:(kI ⟨ae,order,types,.mk rh rp⟩).1=0:=by rw [hF];exact hO0
 refine br (fun h=>?_) (fun _=>?_)
 ·exfalso;simp at h;exact hO h
 refine fw 2 0 en67 rfl rfl rfl bB bB (QC (iL X.af (dm X.af X.aN) X.rows X.js) lk (eaR (.mk rh rp) types 0).2 hT Uk QD acO hnmw (FA hO0)) (fun r eO cA hΦ h1 h2=>?_);subst hΦ;have h2:=List.eq_nil_of_length_eq_zero h2;subst h2;clear vg acK acL Wx QC hea LG;have hN:(dNms types).length=types.length:=dN types;obtain ⟨hwr,Cp,hcm,acP⟩:=QA (Int.le_refl 0) hR0;generalize (eaR (.mk rh rp) types 0).2=m at hcm acP ⊢
 refine cH (fun j st=>∃ (e n:Nat) (base:List DV) (N:List Nd),st=QB ⟨ae,order,types,.mk rh rp⟩ lk (iL X.af (dm X.af X.aN) X.rows X.js) m (loopF ⟨ae,order,types,.mk rh rp⟩).1 (loopF ⟨ae,order,types,.mk rh rp⟩).2 n base e/\e<=types.length/\n=N.length/\base=(dW N).flatten/\N ++ ndsAll (eH ⟨ae,order,types,.mk rh rp⟩) ⟨ae,order,types,.mk rh rp⟩ (types.drop e) n=tz ⟨ae,order,types,.mk rh rp⟩/\j=types.length - e) types.length
  (QB ⟨ae,order,types,.mk rh rp⟩ lk (iL X.af (dm X.af X.aN) X.rows X.js) m (loopF ⟨ae,order,types,.mk rh rp⟩).1 (loopF ⟨ae,order,types,.mk rh rp⟩).2 0 [] 0) (jG 5 ⟨0,82,7,some []⟩ rfl rfl rfl JB rfl rfl vb) ⟨0,0,[],[],rfl,by omega,rfl,rfl,rfl,by omega⟩ ?_
 rintro j st ⟨e,n,base,N,rfl,he,hn,Xg,hNN,rfl⟩;have hl64':types.length<=64:=QD;have acR:X.lev=eH ⟨ae,order,types,.mk rh rp⟩:=by rw [<- hXX];all_goals rfl
 have htot:(tz ⟨ae,order,types,.mk rh rp⟩).length + (Ty.mk rh rp).nn<=512:=by
  have h1:=xX types;have h2:=(Ty.mk rh rp).jr;have h3:(tz ⟨ae,order,types,.mk rh rp⟩).length=(types.map fun x=>x.2.nn).sum:=xW _ _ _ _;omega
 have hbl:base.length=n * 7:=by rw [Xg,hn,AZ]
 have hNl:n + (ndsAll (eH ⟨ae,order,types,.mk rh rp⟩) ⟨ae,order,types,.mk rh rp⟩ (types.drop e) n).length=(tz ⟨ae,order,types,.mk rh rp⟩).length:=by rw [<- hNN,List.length_append,hn]
 refine br ?_ ?_<;>intro hL
 ·have aE:e < types.length:=by have:=hL;simp [hN] at this;exact this
  obtain ⟨x,hx⟩:=gX aE;have hxm:=mG hx;rw [drop_cons hx,ndsAll] at hNN hNl;rw [List.length_append] at hNl;have kR:=mb (eH ⟨ae,order,types,.mk rh rp⟩) ⟨ae,order,types,.mk rh rp⟩ x.2 n;have Z2:=rP X hX lk m hT Uk x.2 (cV x.2 (.inr ⟨x,hxm,rfl⟩)) (acN x hxm) n base (by omega) hbl;rw [acR] at Z2;obtain ⟨xw,⟨xh,xp⟩⟩:=x;refine iX (dNms_get hx) ?_;refine fw 2 1 Tj rfl rfl rfl bB bB Z2 (fun r eO cA hΦ h1 h2=>?_);obtain ⟨rfl,rfl,rfl⟩:=hΦ;refine ⟨QB ⟨ae,order,types,.mk rh rp⟩ lk (iL X.af (dm X.af X.aN) X.rows X.js) m (loopF ⟨ae,order,types,.mk rh rp⟩).1 (loopF ⟨ae,order,types,.mk rh rp⟩).2 (n + (ndsT (eH ⟨ae,order,types,.mk rh rp⟩) ⟨ae,order,types,.mk rh rp⟩ (.mk xh xp) n).length) (base ++ (dW (ndsT (eH ⟨ae,order,types,.mk rh rp⟩) ⟨ae,order,types,.mk rh rp⟩ (.mk xh xp) n)).flatten) (e + 1),(kD 5 (Ea (cR aE (by omega))) (gv (cR aE (by omega)))),types.length - (e + 1),by omega,e + 1,_,_,N ++ ndsT (eH ⟨ae,order,types,.mk rh rp⟩) ⟨ae,order,types,.mk rh rp⟩ (.mk xh xp) n,rfl,by omega,by rw [List.length_append,hn],by rw [Xg];simp [dW],?_,rfl⟩;rw [List.append_assoc,kR];exact hNN
 have hge:e=types.length:=sW hN hL;subst hge;rw [List.drop_length,ndsAll,List.append_nil] at hNN;rw [List.drop_length,ndsAll,List.length_nil,Nat.add_zero] at hNl;have hnr:=rP X hX lk m hT Uk (.mk rh rp) (by omega) hkr' n base (by omega) hbl;rw [acR] at hnr;intro E a w hr;have oP:=lK hr;obtain ⟨b0,ty0,Lo,iT,hw0,D0⟩:=oP.env.dY 0 _ rfl;obtain ⟨b1,ty1,arr1,nU,zA,JE⟩:=oP.env.dY 1 _ rfl;obtain ⟨v13,hv13,hp13⟩:=RvL.get (i:=13) (d:=.loc 1 0) D0.1 rfl;have acS:v13 = .pointer (some ⟨b1,0,none⟩):=by grind [Rv]
 subst acS
 have kO:w.drew.cell? ⟨b0,13,none⟩=some (.pointer (some ⟨b1,0,none⟩)):=by
  rw [cJ hw0];simpa using hv13
 have SD:=Kj oP.env [0,1,2,3];generalize z8:maskL [0,1,2,3] 0 _=bxm at SD;have hbmi:∀ (i:Nat) cs,bxm[i]? = some cs->cs ≠ []->2<=i:=fun i cs hi bo=>by grind [maskL]
 refine la (C:=fun w'=>CC E bxm w.drew w' /\ w'.cell? ⟨b0,13,none⟩=some (.pointer (some ⟨b1,0,none⟩))) (W:=fun i=>Nat.beq i 10) (Q:=fun a w=>kq _ _ .normal a w) mo (by decide +kernel) (fun _ _ h=>h) ⟨⟨fun _ _ _ _ _ _=>rfl,oP.env.sub⟩,kO⟩ ?_;show Go.Proofs.YtfdedoiiahbnnaaGreat.Dv.runT _ _ _ _ _ [0,1,2,3,4,5,6,7,8,9,10] _ _;refine nf oP rfl rfl rfl rfl rfl rfl (fun a0 h0=>?_);refine nf h0 rfl rfl rfl rfl rfl rfl (fun a1 h1=>?_);refine nf h1 rfl rfl rfl rfl rfl rfl (fun a2 h2=>?_);refine Ud h2 rfl nU rfl rfl iT rfl rfl (fun w' h=>h.2) ⟨⟨fun _ _ _ _ _ _=>rfl,oP.env.sub⟩,kO⟩ rfl rfl (fun a3 h3=>?_);refine nf h3 rfl rfl rfl rfl rfl rfl (fun a4 h4=>?_);refine nf h4 rfl rfl rfl rfl rfl rfl (fun a5 h5=>?_);refine Uc h5 rfl (bx:=bxm) (CL h5 SD (fun w' h=>h.1)) ⟨⟨fun _ _ _ _ _ _=>rfl,oP.env.sub⟩,kO⟩ rfl rfl (by rw [<- z8];rfl) rfl (fun a6 h6=>?_);refine Uf h6 rfl rfl rfl rfl rfl rfl Tj 2 1 rfl rfl bB bB hnr rfl rfl ?_;intro v r eO cA E' w' hΦ _ _ cm NS hx hβ hh;obtain ⟨rfl,rfl,rfl⟩:=hΦ;refine ⟨fun _ hC=>⟨⟨fun i b cs hb cx bo=>?_,fun x v hxv=>cm.env.sub x v (hx.c x v hxv)⟩,?_⟩,?_⟩
 ·exact hh i b (hbmi i cs cx bo) hb
 ·obtain ⟨b0',ty0',arr0',YI,hw0',hc0'⟩:=cm.env.dY 0 _ rfl;rw [hβ,iT] at YI;simp only [oI] at YI;subst YI;obtain ⟨u13,hu13,acT⟩:=RvL.get (i:=13) (d:=.loc 1 0) hc0'.1 rfl;unfold Rv at acT;obtain ⟨b,hb,rfl⟩:=acT;rw [hβ,nU] at hb;simp only [oI] at hb;subst hb;rw [cJ hw0'];simpa using hu13
 have h7:=bh (dst:=some 77) cm rfl _ v NS;have hrN:(tz ⟨ae,order,types,.mk rh rp⟩).length=n:=by rw [<- hNN,hn]
 have wj:base ++ (dW (ndsT (eH ⟨ae,order,types,.mk rh rp⟩) ⟨ae,order,types,.mk rh rp⟩ (.mk rh rp) n)).flatten=(dW (aW ⟨ae,order,types,.mk rh rp⟩)).flatten:=by grind [aW,dW]
 have acU:(dW (aW ⟨ae,order,types,.mk rh rp⟩)).length=n + (ndsT (eH ⟨ae,order,types,.mk rh rp⟩) ⟨ae,order,types,.mk rh rp⟩ (.mk rh rp) n).length:=by
  unfold aW;rw [hrN];simp [dW,hrN]
 obtain ⟨E3,h8⟩:=Ug h7 1 1 0 (ns:=dW (aW ⟨ae,order,types,.mk rh rp⟩)) (congrArg (fun b=>some (Ih (n + (ndsT (eH ⟨ae,order,types,.mk rh rp⟩) ⟨ae,order,types,.mk rh rp⟩ (.mk rh rp) n).length) b)) wj) (fun x hx=>by
  simp only [dW,List.mem_map] at hx;obtain ⟨y,_,rfl⟩:=hx
  rfl) acU rfl rfl List.length_replicate
 refine nf h8 rfl rfl rfl rfl rfl rfl (fun a8 h9=>?_);refine nf h9 rfl rfl rfl rfl rfl rfl (fun a9 u9=>?_);refine MA u9 rfl rfl rfl rfl rfl rfl ?_;refine ⟨.bK [.pt [X.pd,.sl 7 (dW (aW ⟨ae,order,types,.mk rh rp⟩)) none,.v (.int .i64 (vm ⟨ae,order,types,.mk rh rp⟩ (.mk rh rp) n)),.pt (dm (tL ⟨ae,order,types,.mk rh rp⟩) lk) 0,.sl 1 (dInts (namedL ⟨ae,order,types,.mk rh rp⟩)) none] 0,Ft.d (0,0)],ax,Ui (os:=[]) (tk:=[]) hF0 ⟨aN,lk,js,by rw [hXX];exact hX,hT,mB,?_⟩⟩;rw [Ww,hXX,il,hrN]
theorem Ul (es:List (List DV)) (hl:es.length<=1099511627776):Ev prog 98 [.sl 1 es none] [] [] (fun r _ _=>r = .sl 1 es none∨(es=[]/\r = .v (.slice none 0 0))):=by
 refine eG 8 [.tmp 2] func98 rfl ntmps98 rfl fun _ _ _ _=>?_;refine Qx ⟨_,rfl⟩ rfl rfl rfl rfl (fun b hb=>?_);refine br ?_ ?_<;>intro h
 ·have h:b=true:=h;have he:es=[]:=Classical.byContradiction fun hn=>by rw [hb hn] at h;cases h
  subst he;exact Or.inr ⟨rfl,rfl⟩
 ·refine Fy rfl rfl rfl rfl (hk:=?_);refine ⟨rfl,⟨by simp [maxLen];omega,by simp;omega⟩,?_⟩;exact ⟨_,ax,Or.inl rfl⟩
theorem Um (es:List (List DV)) (hl:es.length<=1099511627776):Ev prog 99 [.sl 10 es none] [] [] (fun r _ _=>r = .sl 10 es none∨(es=[]/\r = .v (.slice none 0 0))):=by
 refine eG 8 [.tmp 2] func99 rfl ntmps99 rfl fun _ _ _ _=>?_;refine Qx ⟨_,rfl⟩ rfl rfl rfl rfl (fun b hb=>?_);refine br ?_ ?_<;>intro h
 ·have h:b=true:=h;have he:es=[]:=Classical.byContradiction fun hn=>by rw [hb hn] at h;cases h
  subst he;exact Or.inr ⟨rfl,rfl⟩
 ·refine Fy rfl rfl rfl rfl (hk:=?_);refine ⟨rfl,⟨by simp [maxLen];omega,by simp;omega⟩,?_⟩;exact ⟨_,ax,Or.inl rfl⟩
def plD (lc:List DV) (AP:List Nd) (root:Int) (L:List ByteArray) (aN:List Nat) (named:List Nat):DV:=.pt [.pt lc 0,.sl 7 (dW AP) none,.v (.int .i64 root),.pt (dm L aN) 0,.sl 1 (dInts named) none] 0
theorem ow (l:List Nd):(dW l).length=l.length:=by simp [dW]
theorem xY {l:List Nd} {i:Nat} {n:Nd} (h:l[i]? = some n):(dW l)[i]? = some (NV n):=by simp [dW,h]
section
variable (lc:List DV) (AP:List Nd) (root:Int) (L:List ByteArray) (aN:List Nat) (named:List Nat)
theorem tC:bA prog 22 [plD lc AP root L aN named] (.v (.int .i64 AP.length)):=by
 refine eG 10 [.tmp 2] func22 rfl ntmps22 rfl fun _ _ _ _=>?_;refine (Eb ?_:);rw [ow]
theorem Ip:bA prog 23 [plD lc AP root L aN named] (.v (.int .i64 root)):=by
 refine eG 9 [.tmp 2] func23 rfl ntmps23 rfl fun _ _ _ _=>?_;exact (rfl:_=_)
theorem MB:bA prog 45 [plD lc AP root L aN named] (.pt lc 0):=by
 refine eG 9 [.tmp 2] func45 rfl ntmps45 rfl fun _ _ _ _=>?_;exact ⟨_,ax,rfl⟩
theorem Iq (i:Nat) (n:Nd) (h:AP[i]? = some n) (hn:n.af.length<=1099511627776) (he:n.cB.length<=1099511627776) :
  bA prog 38 [plD lc AP root L aN named,.v (.int .i64 i)] (.bK [.agg (NV n),.v (.bool true)]):=by
 have aE:=(gS h).1;have hlen:=tC lc AP root L aN named;have JE:=Ul (fN n.af) (by rw [cT];exact hn);have qU:=Um (pE n.cB) (by rw [ik];exact he);refine eG 32 [.cell 4 82,.tmp 5] func38 rfl ntmps38 rfl fun _ _ _ _=>?_;refine cP Lw hlen ?_;refine br ?_ ?_<;>intro g
 ·exfalso;simp [pickB] at g;omega
 refine iX (xY h) ?_;refine dS ?_;refine rj en98 rfl JE ax (fun r1 hr1=>?_);rcases hr1 with rfl | ⟨h1,rfl⟩
 ·refine rj aaU rfl qU ax (fun r2 j8=>?_);rcases j8 with rfl | ⟨h2,rfl⟩
  ·exact ⟨.bK [.agg (NV n),.v (.bool true)],ax,rfl⟩
  ·exact ⟨.bK [.agg (NV n),.v (.bool true)],(by repeat' (first | exact rfl | exact trivial | exact Or.inr (Or.inl ⟨_,rfl⟩) | exact Or.inr ⟨_,rfl⟩ | exact Or.inl ⟨rfl,rfl⟩ | exact Or.inl rfl | refine Or.inr ⟨_,_,rfl,Nat.zero_le _,rfl,?_⟩ | refine ⟨_,_,rfl,?_,?_⟩ | refine ⟨_,rfl,?_⟩ | exact Or.inl ⟨h2,rfl⟩ | refine Or.inr (Or.inr (Or.inr ⟨_,_,rfl,?_⟩)) | exact Or.inl rfl | refine Or.inr ?_)),rfl⟩
 ·refine rj aaU rfl qU ax (fun r2 j8=>?_);rcases j8 with rfl | ⟨h2,rfl⟩
  ·exact ⟨.bK [.agg (NV n),.v (.bool true)],(by repeat' (first | exact rfl | exact trivial | exact Or.inr (Or.inl ⟨_,rfl⟩) | exact Or.inr ⟨_,rfl⟩ | exact Or.inl ⟨rfl,rfl⟩ | exact Or.inl rfl | refine Or.inr ⟨_,_,rfl,Nat.zero_le _,rfl,?_⟩ | refine ⟨_,_,rfl,?_,?_⟩ | refine ⟨_,rfl,?_⟩ | exact Or.inl ⟨h1,rfl⟩ | refine Or.inr (Or.inr (Or.inr ⟨_,_,rfl,?_⟩)) | exact Or.inl rfl | refine Or.inr ?_)),rfl⟩
  ·exact ⟨.bK [.agg (NV n),.v (.bool true)],(by repeat' (first | exact rfl | exact trivial | exact Or.inr (Or.inl ⟨_,rfl⟩) | exact Or.inr ⟨_,rfl⟩ | exact Or.inl ⟨rfl,rfl⟩ | exact Or.inl rfl | refine Or.inr ⟨_,_,rfl,Nat.zero_le _,rfl,?_⟩ | refine ⟨_,_,rfl,?_,?_⟩ | refine ⟨_,rfl,?_⟩ | exact Or.inl ⟨h1,rfl⟩ | exact Or.inl ⟨h2,rfl⟩ | refine Or.inr (Or.inr (Or.inr ⟨_,_,rfl,?_⟩)) | exact Or.inl rfl | refine Or.inr ?_)),rfl⟩
theorem Ir (i:Int) (h:i < 0∨AP.length<=i) :
  bA prog 38 [plD lc AP root L aN named,.v (.int .i64 i)] (.bK [.agg [.v (.int .i64 0),.v (.int .i64 0),.v (.int .i64 0),.v (.int .i64 0),.v (.int .i64 0),.v (.slice none 0 0),.v (.slice none 0 0)],.v (.bool false)]):=by
 have hlen:=tC lc AP root L aN named;refine eG 32 [.cell 4 82,.tmp 5] func38 rfl ntmps38 rfl fun _ _ _ _=>?_;refine br ?_ ?_<;>intro g
 ·refine cP Lw hlen ?_;refine br ?_ ?_<;>intro g2
  ·exact ⟨_,ax,rfl⟩
  ·exfalso;simp at g;simp [pickB,g] at g2;omega
 ·exact ⟨_,ax,rfl⟩
end
abbrev vH (s:Sch) (n d k q:Int) (e:Nat):St:=
 ⟨[bq 1 0,aJ 3 n,aJ 4 d,aJ 5 e],[iG s],[]⟩
theorem CM (s:Sch) (cV:s.wt<=1099511627776):Ev prog 14 [.agg (iG s)] [] [] (fun d _ _=>∃ b:Bool,d = .v (.bool b)):=by
 have h1:=cE s.ae;have h2:=iH s.order;have h3:=jU s.types;simp only [Sch.wt] at cV;have uB:=n9 s.root.wt s.root (bn _) (by omega);obtain ⟨ae,order,types,⟨h,ps⟩⟩:=s;simp only at h1 h2 h3 cV uB;refine eG 60 [.tmp 2] func14 rfl ntmps14 rfl fun _ _ _ _=>?_;refine br ?_ ?_<;>intro _
 ·exact ⟨true,rfl⟩
 refine cP XP uB ?_;refine cH (fun j st=>∃ (e:Nat) (n d:Int),st=vH ⟨ae,order,types,.mk h ps⟩ n d 0 0 e/\e<=types.length/\j=types.length - e) types.length (vH ⟨ae,order,types,.mk h ps⟩ (Ty.mk h ps).cnt (Ty.mk h ps).deep 0 0 0) (dg wB) ⟨0,_,_,rfl,by omega,by omega⟩ ?_;rintro j st ⟨e,n,d,rfl,he,rfl⟩;refine br ?_ ?_<;>intro hL
 ·have aE:e < types.length:=by have:=hL;simp [dN] at this;exact this
  obtain ⟨w,hw⟩:=gX aE;have Cp:=gM (mG hw);have hs:=n9 w.2.wt w.2 (bn _) (by omega);obtain ⟨w,u,us⟩:=w;simp only at hs;refine iX (dNms_get hw) ?_;refine cP XP hs ?_;refine br ?_ ?_<;>intro _
  ·exact ⟨vH ⟨ae,order,types,.mk h ps⟩ _ _ 0 0 (e + 1),(dg (gv (cR aE (by omega)))),types.length - (e + 1),by omega,e + 1,_,_,rfl,by omega,rfl⟩
  ·exact ⟨vH ⟨ae,order,types,.mk h ps⟩ _ _ 0 0 (e + 1),(dg (gv (cR aE (by omega)))),types.length - (e + 1),by omega,e + 1,_,_,rfl,by omega,rfl⟩
 exact ⟨_,rfl⟩
def samePrs:List (Wd × Wd)->List (Wd × Wd)->Bool
 | [],[]=>true
 | x :: r,y :: s=>(decide (x.1.s=y.1.s) && decide (x.2.s=y.2.s)) && samePrs r s
 | _,_=>false
def sameNms:List (Wd × Ty)->List (Wd × Ty)->Bool
 | [],[]=>true
 | x :: r,y :: s=>(decide (x.1.s=y.1.s) && sameTy x.2 y.2) && sameNms r s
 | _,_=>false
def JH (a b:Sch):Bool:=sameWds a.ae b.ae && samePrs a.order b.order && sameTy a.root b.root && sameNms a.types b.types
theorem qA:∀ a b:List Wd,sameWds (aw a) b=sameWds a b
 | [],[]=>rfl
 | [],_ :: _=>rfl
 | _ :: _,[]=>rfl
 | x :: r,y :: s=>by
  have:=qA r s
  grind [aw,sameWds]
mutual
theorem FB:∀ a b:Ty,sameTy (stripT a) b=sameTy a b
 | .mk h ps,.mk k qs=>by simp only [stripT,sameTy,lg,bw,bZ,qA,A0 ps qs]
theorem A0:∀ a b:Pts,samePts (stripP a) b=samePts a b
 | .nil,.nil=>by simp only [stripP]
 | .nil,.cons _ _ _=>by simp only [stripP]
 | .cons _ _ _,.nil=>by simp only [stripP,samePts]
 | .cons p t r,.cons q u s=>by simp only [stripP,samePts,cw,aY,bZ,qA,FB t u,A0 r s]
end
theorem eh {n m:Nat} {cA:List TkE} {x y:Bool} (h:x=y):We n m cA (.v (.bool x)) (.v (.bool y)):=.inl ⟨by rw [h],rfl⟩
def xZ (S:Sch):List Ty:=S.types.map fun x=>x.2
def pF (S:Sch):List Ty:=xZ S ++ [S.root]
mutual
def flatT:Ty->List Ty
 | .mk h ps=>if h.al=9 then [] else .mk h ps :: flatP ps
def flatP:Pts->List Ty
 | .nil=>[]
 | .cons p t r=>(if p.bare then [] else flatT t) ++ flatP r
end
mutual
theorem tD:∀ t:Ty,(flatT t).length=t.nn
 | .mk h ps=>by
  have:=A1 ps
  grind [flatT,Ty.nn]
theorem A1:∀ ps:Pts,(flatP ps).length=ps.nn
 | .nil=>rfl
 | .cons p t r=>by
  have:=tD t;have:=A1 r
  grind [flatP,Pts.nn]
end
def eaA:List Ty->Int->Ft × Int
 | [],m=>((0,0),m)
 | t :: r,m=>if (cF t m).1.1≠0 then cF t m else eaA r (cF t m).2
theorem QE (z:Ty):∀ (l:List (Wd × Ty)) (m:Int),((eaA (l.map (fun x=>x.2) ++ [z]) m).1.1=0↔(eaR z l m).1.1=0)/\((eaR z l m).1.1≠0->eaA (l.map (fun x=>x.2) ++ [z]) m=eaR z l m)
 | [],m=>by
  show ((eaA [z] m).1.1=0↔(cF z m).1.1=0)/\((cF z m).1.1≠0->eaA [z] m=cF z m)
  grind [eaA,cF]
 | x :: r,m=>by
  have ih:=QE z r (cF x.2 m).2
  grind [eaA,eaR,cF]
def eaK (F:Ty->Ft):List Ty->Ft
 | []=>(0,0)
 | t :: r=>if (F t).1≠0 then F t else eaK F r
theorem QF (F:Ty->Ft) (z:Ty):∀ l:List (Wd × Ty),((eaK F (l.map (fun x=>x.2) ++ [z])).1=0↔(eaL F (F z) l).1=0)/\((eaL F (F z) l).1≠0->eaK F (l.map (fun x=>x.2) ++ [z])=eaL F (F z) l)
 | []=>by
  show ((eaK F [z]).1=0↔(F z).1=0)/\((F z).1≠0->eaK F [z]=F z)
  grind [eaK]
 | x :: r=>by
  have ih:=QF F z r
  grind [eaK,eaL]
theorem QG {F:Ty->Ft}:∀ {l:List Ty},(eaK F l).1=0->∀ t∈l,(F t).1=0
 | [],_,t,ht=>by cases ht
 | u :: r,h,t,ht=>by
  rw [eaK] at h;split at h
  ·rename_i h1;exact (h1 h).elim
  ·rename_i h1;rcases dM ht with rfl | ht
   ·simpa using h1
   ·exact QG h t ht
theorem Un (S:Sch):kI S=if (latF S.ae S.order).1≠0 then latF S.ae S.order
 else if (gH S).1≠0 then gH S
 else if (eaA (pF S) 0).1.1≠0 then (eaA (pF S) 0).1
 else if (eaK (vG S) (pF S)).1≠0 then eaK (vG S) (pF S)
 else loopF S:=by
 have h1:=QE S.root S.types 0;have h2:=QF (vG S) S.root S.types;unfold kI pF xZ;by_cases a:(eaR S.root S.types 0).1.1=0
 ·grind
 ·grind
theorem Uo {S:Sch} (hs:S.wt<=1099511627776):∀ t∈pF S,t.wt<=1099511627776:=by
 intro t ht;unfold Sch.wt at hs;rcases List.mem_append.1 ht with h | h
 ·obtain ⟨x,hx,rfl⟩:=List.mem_map.1 h;have:=gM hx;omega
 all_goals grind
theorem x7 {l:List Ed} {i:Nat} {e:Ed} (h:l[i]? = some e):(pE l)[i]? = some (Wr e):=by simp [pE,h]
def ndR (lev:List Wd->Int) (s:Sch) (t:Ty) (k:Nat):Nd:=⟨t.h.al,t.h.dA,t.h.lo,t.h.hi,t.h.most,aO t.h.af,edsP lev s t.ps (k + 1)⟩
mutual
theorem CN (lev:List Wd->Int) (s:Sch):∀ (t:Ty) (k:Nat),ndsT lev s t k=(flatT t).zipIdx.map fun x=>ndR lev s x.1 (k + x.2)
 | .mk h ps,k=>by
  have ih:=CO lev s ps (k + 1);rw [ndsT,flatT];split
  ·rfl
  ·rw [ih,List.zipIdx_cons,List.map_cons];rw [List.zipIdx_succ,List.map_map];refine congr (congrArg List.cons rfl) (List.map_congr_left fun x _=>?_);simp only [Function.comp];congr 1;omega
theorem CO (lev:List Wd->Int) (s:Sch):∀ (ps:Pts) (k:Nat),rO lev s ps k=(flatP ps).zipIdx.map fun x=>ndR lev s x.1 (k + x.2)
 | .nil,k=>rfl
 | .cons p u r,k=>by
  rw [rO,flatP,List.zipIdx_append,List.map_append]
  cases hb:p.bare with
  | true=>
   simp only [if_true,List.zipIdx_nil,List.map_nil,List.nil_append,List.length_nil,Nat.add_zero];exact CO lev s r k
  | false=>
   simp only [Bool.false_eq_true,if_false];rw [CN lev s u k,CO lev s r (k + u.nn),tD];refine congrArg _ ?_;rw [List.zipIdx_eq_map_add (l:=flatP r) (i:=0 + u.nn)];rw [List.map_map];refine List.map_congr_left fun x _=>?_;simp only [Function.comp];congr 1;omega
end
theorem Kl {X:Lx} {L:List ByteArray}:∀ {ps:Pts},(knP X L ps).1=0->∀ {p:Ph} {u:Ty},(p,u)∈ps.toList->p.bare=false->(knT X L u).1=0
 | .nil,_,p,u,h,_=>by cases h
 | .cons q v r,hk,p,u,h,hb=>by
  rcases dM h with h | h
  ·cases h;exact (tu hk).1 hb
  ·exact Kl (tu hk).2 h hb
def ndsA (lev:List Wd->Int) (s:Sch):List Ty->Nat->List Nd
 | [],_=>[]
 | t :: r,k=>ndsT lev s t k ++ ndsA lev s r (k + t.nn)
def x9 (l:List Ty):Nat:=(l.map Ty.nn).sum
theorem ox (t:Ty) (l:List Ty):x9 (t :: l)=t.nn + x9 l:=by simp [x9]
theorem CP (a b:List Ty):x9 (a ++ b)=x9 a + x9 b:=by simp [x9]
theorem ya (lev:List Wd->Int) (s:Sch):∀ (l:List Ty) (k:Nat),(ndsA lev s l k).length=x9 l
 | [],_=>rfl
 | t :: r,k=>by simp only [ndsA,List.length_append,mb,ya lev s r,ox]
theorem FC (lev:List Wd->Int) (s:Sch):∀ (a b:List Ty) (k:Nat),ndsA lev s (a ++ b) k=ndsA lev s a k ++ ndsA lev s b (k + x9 a)
 | [],b,k=>by simp [ndsA,x9]
 | t :: r,b,k=>by rw [List.cons_append,ndsA,ndsA,FC lev s r b,List.append_assoc,ox,Nat.add_assoc]
theorem yb (lev:List Wd->Int) (s:Sch):∀ (l:List (Wd × Ty)) (k:Nat),ndsAll lev s l k=ndsA lev s (l.map fun x=>x.2) k
 | [],_=>rfl
 | x :: r,k=>by rw [ndsAll,List.map_cons,ndsA,yb lev s r]
theorem QH (s:Sch):(tz s).length=x9 (xZ s):=by rw [tz,yb,ya];all_goals rfl
theorem oY (s:Sch):aW s=ndsA (eH s) s (pF s) 0:=by
 unfold aW pF;rw [FC,QH,tz,yb,ndsA,ndsA,List.append_nil,Nat.zero_add];rfl
theorem QI (l:List Ty):∀ e,x9 (l.take e)<=x9 l:=by
 intro e;have:=CP (l.take e) (l.drop e);rw [List.take_append_drop] at this;omega
theorem YJ (s:Sch):x9 (pF s)<=s.wt:=by
 have key:∀ l:List (Wd × Ty),x9 (l.map fun x=>x.2)<=nmsWt l:=by
  intro l
  induction l with
  | nil=>exact bn _
  | cons x r ih=>
   have:=x.2.jr;have:=x.2.gD
   grind [ox,nmsWt]
 have h1:=key s.types;have h2:=s.root.jr;have h3:=s.root.gD
 grind [pF,CP,ox,Sch.wt,xZ,x9]
mutual
theorem FD {X:Lx} {L:List ByteArray}:∀ (t:Ty),(knT X L t).1=0->∀ u∈flatT t,(knT X L u).1=0
 | .mk h ps,hk,u,hu=>by
  rw [flatT] at hu;split at hu
  ·cases hu
  ·rcases dM hu with rfl | hu
   ·exact hk
   ·exact FE ps (xS hk).2 u hu
theorem FE {X:Lx} {L:List ByteArray}:∀ (ps:Pts),(knP X L ps).1=0->∀ u∈flatP ps,(knT X L u).1=0
 | .nil,_,u,hu=>by cases hu
 | .cons p v r,hk,u,hu=>by
  rw [flatP] at hu;rcases List.mem_append.1 hu with hu | hu
  ·cases hb:p.bare with
   | true=>rw [hb] at hu;cases hu
   | false=>rw [hb] at hu;exact FD v ((tu hk).1 hb) u hu
  ·exact FE r (tu hk).2 u hu
end
mutual
theorem FG:∀ (t:Ty),∀ u∈flatT t,u.wt<=t.wt
 | .mk h ps,u,hu=>by
  rw [flatT] at hu;split at hu
  ·cases hu
  ·rcases dM hu with rfl | hu
   ·exact bn _
   ·have:=FH ps u hu;simp only [Ty.wt];omega
theorem FH:∀ (ps:Pts),∀ u∈flatP ps,u.wt<=ps.wt
 | .nil,u,hu=>by cases hu
 | .cons p v r,u,hu=>by
  rw [flatP] at hu;simp only [Pts.wt];rcases List.mem_append.1 hu with hu | hu
  ·split at hu
   ·cases hu
   ·have:=FG v u hu;omega
  ·have:=FH r u hu;omega
end
structure Km (S:Sch):Prop where
 lat:(latF S.ae S.order).1=0
 l64:S.types.length<=64
 kn:∀ t∈pF S,(vG S t).1=0
 ends:∀ i,i < S.types.length->∃ k,endI S (S.types.length + 1) i=some k
 wr:∀ t∈pF S,(wrong t 1 0).1.1=0
theorem QJ:∀ {l:List Ty} {m:Int},(eaA l m).1.1=0->∀ t∈l,(wrong t 1 0).1.1=0
 | [],_,_,t,ht=>by cases ht
 | u :: r,m,h,t,ht=>by
  rw [eaA] at h;split at h
  ·rename_i h1;exact (h1 h).elim
  ·rename_i h1;rcases dM ht with rfl | ht
   ·exact (oX (sU h1)).2.2.1
   ·exact QJ h t ht
theorem QK {S:Sch} (h:(kI S).1=0):Km S:=by
 rw [Un] at h;split at h
 ·rename_i h1;exact (h1 h).elim
 rename_i h1;split at h
 ·rename_i h2;exact (h2 h).elim
 rename_i h2;split at h
 ·rename_i h3;exact (h3 h).elim
 rename_i h3;split at h
 ·rename_i h4;exact (h4 h).elim
 rename_i h4
 exact {
  lat:=sU h1
  l64:=by grind [gH]
  kn:=QG (sU h4)
  ends:=FA h
  wr:=QJ (sU h3) }
def Wy (t:Ty):Prop:=∃ d m,(wrong t d m).1.1=0
def Kn (al:Int) (p:Ph) (t:Ty):Prop:=(p.bare=true/\al=8/\sameTy t bX=true/\cw p hU=true)∨(p.bare=false/\(dZ p).1=0/\Wy t)
structure TyF (h:Hd) (ps:Pts):Prop where
 k1:1<=h.al
 k9:h.al<=9
 own:pB h ps=true
 int:h.al=2->h.lo<=h.hi
 text:h.al=3->0<=h.most/\h.most<=4096
 enum:h.al=4->iE h=(0,0)
 one:h.al=5∨h.al=6->∃ p t,ps = .cons p t .nil/\p.name.s=aZ/\cw p cp=true/\0<=h.most/\h.most<=1024/\Wy t
 many:h.al=7∨h.al=8->ps.len<=64/\(h.al=8->ps.len≠0)/\∀ i p t,ps.toList[i]? = some (p,t)->bd (pNames ps) i p.name=0/\Kn h.al p t
theorem YK {h:Hd} {ps:Pts} (ho:¬ pA (.mk h ps)=false):pB h ps=true:=by
 rw [rm];cases hb:sameTy (.mk h ps) (mask (.mk h ps))
 ·exact absurd hb ho
 ·rfl
theorem oy {al:Int} {all:List Wd}:∀ {ps:Pts} {i:Nat} {d m:Int},(wrongPts al all i ps d m).1.1=0->(al=7∨al=8)->∀ j p t,ps.toList[j]? = some (p,t)->bd all (i + j) p.name=0/\Kn al p t
 | .nil,i,d,m,_,_,j,p,t,hx=>by simp [Pts.toList] at hx
 | .cons q u r,i,d,m,he,hk,j,p,t,hx=>by
  simp only [wrongPts] at he;by_cases c0:bd all i q.name≠0
  ·rw [ah c0] at he;exact absurd he c0
  rw [ag c0] at he;have c0:bd all i q.name=0:=sU c0
  have step:∀ d' m',(wrongPts al all (i + 1) r d' m').1.1=0->Kn al q u->bd all (i + j) p.name=0/\Kn al p t:=by
   intro d' m' h hq
   cases j with
   | zero=>grind [Pts.toList]
   | succ j=>
    simp only [Pts.toList,List.getElem?_cons_succ] at hx;have:=oy h hk j p t hx
    grind
  by_cases c1:q.bare=true
  ·rw [ah c1] at he;by_cases c2:al=7∨sameTy u bX=false∨cw q hU=false
   ·rw [ah c2] at he;simp at he
   rw [ag c2] at he;refine step d m he (.inl ⟨c1,?_,?_,?_⟩)
   all_goals grind
  ·rw [ag c1] at he;by_cases c2:(dZ q).1≠0
   ·rw [ah c2] at he;exact absurd he c2
   rw [ag c2] at he;by_cases c3:(wrong u (d + 1) m).1.1≠0
   ·rw [ah c3] at he;exact absurd he c3
   rw [ag c3] at he;exact step d _ he (.inr ⟨by simpa using c1,by simpa using c2,d + 1,m,by simpa using c3⟩)
theorem Iu:∀ {t:Ty},Wy t->TyF t.h t.ps
 | .mk h ps,⟨d,m,he⟩=>by
  simp only [Ty.h,Ty.ps];simp only [wrong] at he;by_cases c0:24 < d
  ·rw [ah c0] at he;simp at he
  rw [ag c0] at he;by_cases c1:512 < m + 1
  ·rw [ah c1] at he;simp at he
  rw [ag c1] at he;by_cases c2:h.al < 1∨9 < h.al
  ·rw [ah c2] at he;simp at he
  rw [ag c2] at he;by_cases c3:pA (.mk h ps)=false
  ·rw [ah c3] at he;simp at he
  rw [ag c3] at he;by_cases c4:(h.al=2/\h.hi < h.lo)∨(h.al=3/\(h.most < 0∨4096 < h.most))
  ·rw [ah c4] at he;simp at he
  rw [ag c4] at he;by_cases c5:h.al=9/\ay h.name.s=false
  ·rw [ah c5] at he;simp at he
  rw [ag c5] at he;refine { k1:=by omega,k9:=by omega,own:=YK c3,int:=fun h2=>by omega,text:=fun h3=>by omega,enum:=fun h4=>?_,one:=fun h5=>?_,many:=fun h7=>?_ }
  ·rw [ah h4] at he;exact Ai h he
  ·rw [ag (by omega),ah h5] at he
   match ps,he with
   | .nil,he=>simp [wrongOne] at he
   | .cons p t (.cons _ _ _),he=>simp [wrongOne] at he
   | .cons p t .nil,he=>
    simp only [wrongOne] at he;by_cases e0:p.name.s≠aZ∨cw p cp=false
    ·rw [ah e0] at he;simp at he
    rw [ag e0] at he;by_cases e1:h.most < 0∨1024 < h.most
    ·rw [ah e1] at he;simp at he
    rw [ag e1] at he;refine ⟨p,t,rfl,Classical.byContradiction fun hn=>e0 (.inl hn),?_,by omega,by omega,d + 1,_,he⟩
    grind
  ·rw [ag (by omega),ag (by omega),ah h7] at he;by_cases e0:h.al=8/\ps.len=0
   ·rw [ah e0] at he;simp at he
   rw [ag e0] at he;by_cases e1:64 < ps.len
   ·rw [ah e1] at he;simp at he
   rw [ag e1] at he;refine ⟨by omega,fun h8=>fun hl=>e0 ⟨h8,hl⟩,fun i p t hx=>?_⟩;have:=oy he h7 i p t hx
   rwa [Nat.zero_add] at this
theorem TyF.sub {h:Hd} {ps:Pts} (hF:TyF h ps) {p:Ph} {u:Ty} (hm:(p,u)∈ps.toList) (hb:p.bare=false):Wy u:=by
 obtain ⟨i,hi⟩:=List.mem_iff_getElem?.1 hm
 have hlen:0 < ps.len:=by
  cases ps with
  | nil=>simp [Pts.toList] at hm
  | cons _ _ _=>simp [Pts.len]
 have hk:5<=h.al/\h.al<=8:=by
  have h1:=hF.own
  grind [pB]
 by_cases h5:h.al=5∨h.al=6
 ·obtain ⟨q,t,rfl,_,_,_,_,hw⟩:=hF.one h5
  grind [Pts.toList]
 ·rcases ((hF.many (by omega)).2.2 i p u hi).2 with h1 | h1
  ·rw [h1.1] at hb;cases hb
  ·exact h1.2.2
mutual
theorem yc:∀ (t:Ty),Wy t->∀ u∈flatT t,Wy u
 | .mk h ps,hw,u,hu=>by
  rw [flatT] at hu;split at hu
  ·cases hu
  ·rcases dM hu with rfl | hu
   ·exact hw
   ·exact FI ps (fun p v hm hb=>(Iu hw).sub hm hb) u hu
theorem FI:∀ (ps:Pts),(∀ p v,(p,v)∈ps.toList->p.bare=false->Wy v)->∀ u∈flatP ps,Wy u
 | .nil,_,u,hu=>by cases hu
 | .cons p v r,hw,u,hu=>by
  rw [flatP] at hu;rcases List.mem_append.1 hu with hu | hu
  ·cases hb:p.bare with
   | true=>rw [hb] at hu;cases hu
   | false=>rw [hb] at hu;exact yc v (hw p v (by simp [Pts.toList]) hb) u hu
  ·exact FI r (fun q w hm=>hw q w (by simp [Pts.toList,hm])) u hu
end
mutual
theorem FJ:∀ (t:Ty),∀ u∈flatT t,u.h.al≠9
 | .mk h ps,u,hu=>by
  rw [flatT] at hu;split at hu
  ·cases hu
  ·rename_i h9;rcases dM hu with rfl | hu
   ·exact h9
   ·exact FK ps u hu
theorem FK:∀ (ps:Pts),∀ u∈flatP ps,u.h.al≠9
 | .nil,u,hu=>by cases hu
 | .cons p v r,u,hu=>by
  rw [flatP] at hu;rcases List.mem_append.1 hu with hu | hu
  ·split at hu
   ·cases hu
   ·exact FJ v u hu
  ·exact FK r u hu
end
mutual
theorem A2:∀ (t:Ty) (j:Nat) (u:Ty),(flatT t)[j]? = some u->j + u.nn<=t.nn
 | .mk h ps,j,u,hu=>by
  rw [flatT] at hu;by_cases h9:h.al=9
  ·rw [ah h9] at hu;simp at hu
  rw [ag h9] at hu
  cases j with
  | zero=>grind
  | succ j=>
   simp only [List.getElem?_cons_succ] at hu;have:=tE ps j u hu;rw [Ty.nn,ag h9];omega
theorem tE:∀ (ps:Pts) (j:Nat) (u:Ty),(flatP ps)[j]? = some u->j + u.nn<=ps.nn
 | .nil,j,u,hu=>by simp [flatP] at hu
 | .cons p v r,j,u,hu=>by
  rw [flatP] at hu;rw [Pts.nn]
  cases hb:p.bare with
  | true=>
   rw [hb] at hu;have:=tE r j u (sU hu);simp only [if_true];omega
  | false=>
   rw [hb] at hu;simp only [Bool.false_eq_true,if_false] at hu ⊢;by_cases hj:j < (flatT v).length
   ·rw [ei hj] at hu;have:=A2 v j u hu;omega
   ·rw [List.getElem?_append_right (by omega)] at hu;have:=tE r _ u hu;have h2:=tD v;omega
end
theorem rS {lev:List Wd->Int} {s:Sch}:∀ {ps:Pts} {k:Nat} {e:Ed},e∈edsP lev s ps k->∃ p u k',(p,u)∈ps.toList/\e=CK lev p (AO s p u k')/\(p.bare=false->k' + u.nn<=k + ps.nn)
 | .nil,k,e,he=>by simp [edsP] at he
 | .cons p u r,k,e,he=>by
  rw [edsP] at he;rcases dM he with rfl | he
  ·grind [Pts.toList,Pts.nn]
  ·obtain ⟨q,v,k',h1,h2,h3⟩:=rS he
   grind [Pts.toList,Pts.nn]
theorem qB {lev:List Wd->Int} {s:Sch}:∀ {ps:Pts} {k:Nat},(edsP lev s ps k).map Ed.name=aO (pNames ps)
 | .nil,k=>rfl
 | .cons p u r,k=>by
  rw [edsP,List.map_cons,qB (ps:=r)];rfl
theorem A3 {f:Nat->Nat->Bool} {n:Nat} (hL:kv f n):∀ e,e<=n->∃ b,b < n/\∀ x,x < e->f b x=true
 | 0,_=>⟨0,hL.pos,fun x hx=>by omega⟩
 | e + 1,he=>by
  obtain ⟨b,hb,jk⟩:=A3 hL e (by omega);obtain ⟨k,hk⟩:=hL.mt b e hb (by omega);obtain ⟨g1,g2,g3,g4⟩:=qy hk;refine ⟨k,g1,fun x hx=>?_⟩;rcases G8 hx with hx | rfl
  ·exact hL.tr k b x g1 hb (by omega) g2 (jk x hx)
  ·exact g3
theorem uE {f:Nat->Nat->Bool} {n:Nat} (hL:kv f n) (l:List Nat) (hl:∀ x∈l,x < n):∃ c,iN f n l=some c:=by
 have key:∀ e,e<=l.length->∃ c,iN f n (l.take e)=some c:=by
  intro e
  induction e with
  | zero=>
   intro _;obtain ⟨b,hb,jk⟩:=A3 hL n (bn _);exact ⟨b,qz hL hb jk⟩
  | succ e ih=>
   intro he;obtain ⟨c,hc⟩:=ih (by omega);obtain ⟨x,hx⟩:∃ x,l[e]? = some x:=⟨_,gE (by omega)⟩;have wg:=hl x (mG hx);obtain ⟨k,hk⟩:=hL.jn c x (tq hc) wg;rw [List.take_add_one,hx]
   grind [uz]
 have:=key l.length (bn _)
 rwa [List.take_length] at this
theorem A4 {L:List ByteArray}:∀ {l:List Wd},(labW L l).1=0->∀ w∈l,∃ i,gG L w.s=some i
 | [],_,w,hw=>by cases hw
 | x :: r,h,w,hw=>by
  rw [labW] at h;split at h
  ·cases h
  ·rename_i h1;rcases dM hw with rfl | hw
   ·exact Option.ne_none_iff_exists'.1 h1
   ·exact A4 h w hw
theorem MC {f:Nat->Nat->Bool} {L:List ByteArray} (hL:kv f L.length) {l:List Wd} (h:(labW L l).1=0):∃ c:Nat,Fi f L l=c/\c < L.length:=by
 obtain ⟨c,hc⟩:=uE hL (vl L l) (fun x hx=>by
  unfold vl at hx;obtain ⟨w,hw,rfl⟩:=List.mem_map.1 hx;obtain ⟨i,hi⟩:=A4 h w hw;rw [hi]
  exact (iJ hi).1)
 refine ⟨c,?_,tq hc⟩;unfold Fi;rw [ah h,hc];rfl
structure EdOK (L N:Nat) (e:Ed):Prop where
 to0:e.bare=true->e.to = -1
 to1:e.bare=false->∃ k:Nat,e.to=k/\k < N
 lab:∃ k:Nat,e.label=k/\k < L
 seen:∃ k:Nat,e.seen=k/\k < L
 wide:1<=e.wide/\e.wide<=64
 ck:0<=e.ck/\e.ck<=3
 cn:(e.ck=0->e.cn=0)/\(e.ck=1->1<=e.cn)/\(e.ck=2->0<=e.cn/\e.cn<=4096)/\(e.ck=3->e.cn=0)
structure QL (L N:Nat) (n:Nd):Prop where
 k1:1<=n.al
 k8:n.al<=8
 lohi:n.al=2->n.lo<=n.hi
 lo0:n.al≠2->n.lo=0/\n.hi=0
 acX:n.al=3->0<=n.most/\n.most<=4096
 acY:n.al=5->0<=n.most/\n.most<=1024
 acZ:n.al≠3->n.al≠5->n.most=0
 af:n.al=4->n.af ≠ []/\n.af.length<=64/\n.af.Nodup/\∀ s∈n.af,ay s=true
 YL:n.al≠4->n.af=[]
 leaf:n.al < 5->n.cB=[]
 one:n.al=5∨n.al=6->∃ e,n.cB=[e]/\e.bare=false/\e.name=aZ
 many:n.al=7∨n.al=8->n.cB.length<=64/\(n.al=8->n.cB ≠ [])/\(n.cB.map Ed.name).Nodup/\∀ e∈n.cB,ay e.name=true
 bare:∀ e∈n.cB,e.bare=true->n.al=8
 Md:∀ e∈n.cB,EdOK L N e
theorem yd {l:List Wd} (h:∀ j x,l[j]? = some x->bd l j x=0):(aO l).Nodup/\∀ x∈l,ay x.s=true:=by
 have key:∀ e,e<=l.length->(aO (l.take e)).Nodup:=by
  intro e
  induction e with
  | zero=>intro _;simp [aO]
  | succ e ih=>
   intro he;obtain ⟨x,hx⟩:∃ x,l[e]? = some x:=⟨_,gE (by omega)⟩
   grind [nb]
 refine ⟨by have:=key l.length (bn _);rwa [List.take_length] at this,fun x hx=>?_⟩;obtain ⟨j,hj⟩:=List.mem_iff_getElem?.1 hx
 grind [bd,ay]
theorem A5 {all:List Wd}:∀ {l:List Wd} {i:Nat},(enumL all i l).1=0->∀ j x,l[j]? = some x->bd all (i + j) x=0
 | [],i,_,j,x,hx=>by simp at hx
 | y :: r,i,h,j,x,hx=>by
  rw [enumL] at h;split at h
  ·rename_i h1;exact (h1 h).elim
  ·rename_i h1
   cases j with
   | zero=>grind
   | succ j=>
    simp only [List.getElem?_cons_succ] at hx;have:=A5 h j x hx
    grind
theorem CQ {h:Hd} (he:iE h=(0,0)):h.af ≠ []/\h.af.length<=64/\(aO h.af).Nodup/\∀ x∈h.af,ay x.s=true:=by
 unfold iE at he;split at he
 ·cases he
 ·rename_i h1;split at he
  ·cases he
  ·rename_i h2;refine ⟨h1,by omega,?_⟩
   exact yd fun j x hx=>by
    have:=A5 (all:=h.af) (i:=0) (by rw [he]) j x hx
    rwa [Nat.zero_add] at this
theorem Ko {X:Lx} {L:List ByteArray}:∀ {ps:Pts},(knP X L ps).1=0->∀ {p:Ph} {u:Ty},(p,u)∈ps.toList->(X.bad p.label).1=0/\(X.bad p.cl).1=0
 | .nil,_,p,u,h=>by cases h
 | .cons q v r,hk,p,u,h=>by
  have hr:=(tu hk).2;rw [knP] at hk;split at hk
  ·rename_i h1;exact (h1 hk).elim
  rename_i h1;split at hk
  ·rename_i h2;exact (h2 hk).elim
  rename_i h2;rcases dM h with h | h
  ·grind
  ·exact Ko hr h
theorem oZ {p q:Ph} (h:cw p q=true):p.bare=q.bare/\p.wide=q.wide/\p.ck=q.ck/\p.cn=q.cn:=by grind [cw]
theorem QM {w:Int} (h:0<=w/\w<=64):1<=uD w/\uD w<=64:=by
 unfold uD;split<;>omega
theorem Iv {p:Ph} (h:(bW p).1=0):(0<=p.ck/\p.ck<=3)/\(p.ck=0->p.cn=0)/\(p.ck=1->1<=p.cn)/\(p.ck=2->0<=p.cn/\p.cn<=4096)/\(p.ck=3->p.cn=0):=by grind [bW]
theorem MD {p:Ph} (h:(dZ p).1=0):(0<=p.wide/\p.wide<=64)/\(bW p).1=0:=by grind [dZ,du]
theorem QN {t:Ty} (h:t.h.al≠9):1<=t.nn:=by
 obtain ⟨h',ps⟩:=t;have h:¬ h'.al=9:=h;rw [Ty.nn,ag h];omega
theorem ME {S:Sch} {k:Nat} {x:Wd × Ty} (hx:S.types[k]? = some x):firstA S k + x.2.nn<=x9 (pF S):=by
 have h1:=uC hx;rw [<- h1]
 have h2:firstA S (k + 1)=x9 ((xZ S).take (k + 1)):=by
  unfold firstA x9 xZ;rw [<- List.map_take,List.map_map];rfl
 grind [QI,xZ,x9,pF,CP]
theorem ye {lev:List Wd->Int} {s:Sch} {n:Nd}:∀ {l:List Ty} {k i:Nat},(ndsA lev s l k)[i]? = some n->∃ t∈l,∃ u∈flatT t,n=ndR lev s u (k + i)/\i + u.nn<=x9 l
 | [],k,i,h=>by simp [ndsA] at h
 | t :: r,k,i,h=>by
  rw [ndsA] at h;rw [ox];have hl:=mb lev s t k;by_cases hi:i < t.nn
  ·rw [ei (by omega),CN,List.getElem?_map,List.getElem?_zipIdx] at h
   cases hu:(flatT t)[i]? with
   | none=>rw [hu] at h;simp at h
   | some u=>
    rw [hu] at h;simp only [Option.map_some,oI] at h;have:=A2 t i u hu;exact ⟨t,List.mem_cons_self,u,mG hu,by rw [<- h];simp,by omega⟩
  ·rw [List.getElem?_append_right (by omega),hl] at h;obtain ⟨t',h1,u,h2,h3,h4⟩:=ye h
   grind
theorem yf (S:Sch):(aW S).length=x9 (pF S):=by rw [oY,ya]
theorem A6 {S:Sch} (hF:Km S) {i:Nat} {n:Nd} (h:(aW S)[i]? = some n):QL S.ae.length (aW S).length n:=by
 rw [yf];rw [oY] at h;obtain ⟨t,ht,u,hu,rfl,nK⟩:=ye h;rw [Nat.zero_add];have hwr:=yc t ⟨_,_,hF.wr t ht⟩ u hu;have hk:=FD t (hF.kn t ht) u hu;have hk9:=FJ t u hu;have hT:=Iu hwr;obtain ⟨hLat,_⟩:=xV hF.lat;have kR:=gn S.ae;have ac0:=hF.ends;obtain ⟨uh,us⟩:=u;simp only [Ty.h,Ty.ps] at hT hk9;have hkp:=(xS hk).2;have dG:=hT.own;unfold pB at dG;simp only [bg,Bool.or_eq_true,decide_eq_true_eq] at dG;obtain ⟨⟨⟨⟨o1,o2⟩,o3⟩,o4⟩,o5⟩:=dG;have k1:=hT.k1;have k9:=hT.k9
 have Ig:∀ l:List Wd,(labW (aO S.ae) l).1=0->∃ k:Nat,eH S l=k/\k < S.ae.length:=by
  intro l hl;have:=MC (f:=jL S.ae.length (fT (aO S.ae) S.order)) (L:=aO S.ae) (by rw [kR];exact hLat) hl
  rwa [kR] at this
 have hto:∀ (p:Ph) (v:Ty) (k':Nat),(p,v)∈us.toList->(p.bare=false->k' + v.nn<=i + 1 + us.nn)->(p.bare=true->AO S p v k' = -1)/\(p.bare=false->∃ k:Nat,AO S p v k'=k/\k < x9 (pF S)):=by
  intro p v k' hm jk;refine ⟨fun hb=>by simp [AO,hb],fun hb=>?_⟩;have hkv:=Kl hkp hm hb;obtain ⟨vh,vs⟩:=v;by_cases h9:vh.al=9
  ·obtain ⟨j,hj⟩:=Option.ne_none_iff_exists'.1 ((xS hkv).1 h9);have vZ:=(iJ hj).1;rw [xP] at vZ;obtain ⟨k,hk⟩:=ac0 j vZ;have D6:=CG hk;obtain ⟨x,hx⟩:∃ x,S.types[k]? = some x:=⟨_,gE D6.1⟩;have h1:=ME hx
   grind [QN,firstA,AO,vm,Ty.h,YB,namedN]
  ·grind [QN,Ty.nn,AO,vm,Ty.h]
 have Fk:∀ p v,(p,v)∈us.toList->(0<=p.wide/\p.wide<=64)/\(0<=p.ck/\p.ck<=3)/\((p.ck=0->p.cn=0)/\(p.ck=1->1<=p.cn)/\(p.ck=2->0<=p.cn/\p.cn<=4096)/\(p.ck=3->p.cn=0))/\(p.bare=true->uh.al=8):=by
  intro p v hm;obtain ⟨j,hj⟩:=List.mem_iff_getElem?.1 hm
  have hlen:us.len≠0:=by
   cases us with
   | nil=>simp [Pts.toList] at hm
   | cons _ _ _=>simp [Pts.len]
  by_cases h5:uh.al=5∨uh.al=6
  ·obtain ⟨q,t',rfl,_,kE,_,_,_⟩:=hT.one h5;simp only [Pts.toList,List.mem_singleton,Prod.mk.injEq] at hm;obtain ⟨rfl,rfl⟩:=hm;obtain ⟨w1,w2,w3,w4⟩:=oZ kE;have z1:cp.wide=0:=rfl;have z2:cp.ck=0:=rfl;have z3:cp.cn=0:=rfl;have z4:cp.bare=false:=rfl
   grind
  ·obtain ⟨_,hP⟩:=(hT.many (by omega)).2.2 j p v hj;rcases hP with ⟨hb,h8,_,kE⟩ | ⟨hb,hp,_⟩
   ·obtain ⟨w1,w2,w3,w4⟩:=oZ kE;have z1:hU.wide=0:=rfl;have z2:hU.ck=0:=rfl;have z3:hU.cn=0:=rfl;omega
   ·obtain ⟨w1,w2⟩:=MD hp;obtain ⟨w3,w4⟩:=Iv w2
    grind
 have ac1:us.len=0->us = .nil:=fun h=>by
  cases us with
  | nil=>rfl
  | cons _ _ _=>simp [Pts.len] at h
 refine {
  k1:=k1
  k8:=by show uh.al<=8;omega
  lohi:=hT.int
  lo0:=fun h2=>?_
  acX:=hT.text
  acY:=fun h5=>?_
  acZ:=fun h3 h5=>?_
  af:=fun h4=>?_
  YL:=fun h4=>?_
  leaf:=fun h5=>?_
  one:=fun h5=>?_
  many:=fun h7=>?_
  bare:=fun e he hb=>?_
  Md:=fun e he=>?_ }
 ·show uh.lo=0/\uh.hi=0;exact o1.resolve_left h2
 ·obtain ⟨q,t',rfl,_,_,pu,mC,_⟩:=hT.one (.inl h5);exact ⟨pu,mC⟩
 ·show uh.most=0;exact o2.resolve_left (fun h=>h.elim h3 h5)
 ·obtain ⟨e1,e2,e3,e4⟩:=CQ (hT.enum h4);show aO uh.af ≠ []/\(aO uh.af).length<=64/\(aO uh.af).Nodup/\∀ s∈aO uh.af,ay s=true
  grind [aO,gn]
 ·show aO uh.af=[];have:=o4.resolve_right h4;have:uh.af=[]:=List.eq_nil_of_length_eq_zero this;rw [this];all_goals rfl
 ·show edsP (eH S) S us (i + 1)=[];have hk5:uh.al < 5:=h5;rw [ac1 (o3.resolve_right (by omega))];rfl
 ·show ∃ e,edsP (eH S) S us (i + 1)=[e]/\_;obtain ⟨q,t',rfl,hn,kE,_,_,_⟩:=hT.one h5;refine ⟨CK (eH S) q (AO S q t' (i + 1)),rfl,?_,hn⟩;exact (oZ kE).1
 ·show (edsP (eH S) S us (i + 1)).length<=64/\(_->edsP (eH S) S us (i + 1) ≠ [])/\((edsP (eH S) S us (i + 1)).map Ed.name).Nodup/\∀ e∈edsP (eH S) S us (i + 1),ay e.name=true;obtain ⟨m1,m2,m3⟩:=hT.many h7;have iV:∀ j x,(pNames us)[j]? = some x->bd (pNames us) j x=0:=by grind [qg,Pts.jm,mT]
  obtain ⟨n1,n2⟩:=yd iV;refine ⟨by rw [rQ];exact m1,fun h8 hn=>m2 h8 ?_,by rw [qB];exact n1,fun e he=>?_⟩
  ·grind [rQ,eH]
  ·have:e.name∈aO (pNames us):=by rw [<- qB (lev:=eH S) (s:=S) (k:=i + 1)];exact List.mem_map_of_mem he
   grind [aO]
 ·obtain ⟨p,v,k',h1,rfl,_⟩:=rS he;exact (Fk p v h1).2.2.2 hb
 ·obtain ⟨p,v,k',h1,rfl,h3⟩:=rS he;obtain ⟨h4,h5⟩:=hto p v k' h1 h3;obtain ⟨h6,h7,h8,_⟩:=Fk p v h1;obtain ⟨h9,u9⟩:=Ko hkp h1;exact { to0:=h4,to1:=h5,lab:=Ig _ h9,seen:=Ig _ u9,wide:=QM h6,ck:=h7,cn:=h8 }
theorem FL {lev:List Wd->Int} {s:Sch} {n:Nd}:∀ {l:List Ty} {k:Nat},n∈ndsA lev s l k->∃ t∈l,∃ u∈flatT t,∃ k',n=ndR lev s u k'
 | [],_,h=>by cases h
 | t :: r,k,h=>by
  rw [ndsA] at h;rcases List.mem_append.1 h with h | h
  ·grind [CN]
  ·obtain ⟨t',ht,h⟩:=FL h;exact ⟨t',fA _ ht,h⟩
theorem A7 {S:Sch} {n:Nd} (h:n∈aW S) (hS:S.wt<=1099511627776):n.af.length<=1099511627776/\n.cB.length<=1099511627776:=by
 rw [oY] at h;obtain ⟨t,ht,u,hu,k,rfl⟩:=FL h;have h1:=Uo hS t ht;have h2:=FG t u hu;obtain ⟨uh,us⟩:=u;have h3:=cE uh.af;have h4:=us.ki
 grind [Ty.wt,Hd.wt,ndR,Ty.h,Ty.ps,gn,rQ]
abbrev zNd:List DV:=[.v (.int .i64 0),.v (.int .i64 0),.v (.int .i64 0),.v (.int .i64 0),.v (.int .i64 0),.v (.slice none 0 0),.v (.slice none 0 0)]
structure mc (S:Sch) (ND:List Nd) (PC:List DV):Prop where
 fine:Km S
 wt:S.wt<=1099511627776
 AP:ND=aW S
 ok:∀ n∈ND,QL S.ae.length ND.length n
 nl:ND.length<=1099511627776
 len:bA prog 22 [.pt PC 0] (.v (.int .i64 ND.length))
 root:bA prog 23 [.pt PC 0] (.v (.int .i64 (il S)))
 aj:∀ (i:Nat) n,ND[i]? = some n->bA prog 38 [.pt PC 0,.v (.int .i64 i)] (.bK [.agg (NV n),.v (.bool true)])
 ac2:∀ i:Int,(i < 0∨ND.length<=i)->bA prog 38 [.pt PC 0,.v (.int .i64 i)] (.bK [.agg zNd,.v (.bool false)])
 lat:∃ aN js,(eD S aN js).OK/\bA prog 45 [.pt PC 0] (eD S aN js).pd
theorem QO {S:Sch} {d:DV} (hS:S.wt<=1099511627776) (h0:(kI S).1=0) (hd:Qy S d):∃ PC,d = .pt PC 0/\mc S (aW S) PC:=by
 obtain ⟨aN,lk,js,hX,hT,mB,rfl⟩:=hd;have hF:=QK h0;have di:=fun n (h:n∈aW S)=>A7 h hS
 refine ⟨_,rfl,{
  fine:=hF
  wt:=hS
  AP:=rfl
  ok:=fun n hn=>?_
  nl:=by rw [yf];exact Nat.le_trans (YJ S) hS
  len:=tC _ _ _ _ _ _
  root:=Ip _ _ _ _ _ _
  aj:=fun i n h=>Iq _ _ _ _ _ _ i n h (di n (mG h)).1 (di n (mG h)).2
  ac2:=fun i h=>Ir _ _ _ _ _ _ i h
  lat:=⟨aN,js,hX,MB _ _ _ _ _ _⟩ }⟩
 obtain ⟨i,hi⟩:=List.mem_iff_getElem?.1 hn;exact A6 hF hi
def QP (S:Sch) (r:DV):Prop:=((kI S).1≠0/\r = .bK [.v (.pointer none),(kI S).d])∨((kI S).1=0/\∃ PC,mc S (aW S) PC/\r = .bK [.pt PC 0,Ft.d (0,0)])
theorem MF {S:Sch} (hS:S.wt<=1099511627776) {r:DV} {os:List (List DV)} {tk:List TkE} (h:Im S r os tk):QP S r:=by
 unfold Im at h;by_cases h0:(kI S).1=0
 ·rw [ag (by rw [h0];simp)] at h;obtain ⟨d,hd,rfl⟩:=h;obtain ⟨PC,rfl,hP⟩:=QO hS h0 hd;exact .inr ⟨h0,PC,hP,rfl⟩
 ·rw [ah h0] at h;exact .inl ⟨h0,h⟩
inductive Val where
 | mk (k n:Int) (s:ByteArray) (ks:List Val)
def Val.k:Val->Int | .mk k _ _ _=>k
def Val.n:Val->Int | .mk _ n _ _=>n
def Val.s:Val->ByteArray | .mk _ _ s _=>s
def Val.ks:Val->List Val | .mk _ _ _ ks=>ks
mutual
def Val.wt:Val->Nat
 | .mk _ _ s ks=>64 + s.size + ac3 ks
def ac3:List Val->Nat
 | []=>0
 | v :: r=>v.wt + ac3 r
end
def to0 (n:Nd):Int:=match n.cB[0]? with | some e=>e.to | none=>0
structure Hg where
 k:Int
 n:Int
 s:ByteArray
def QQ (f:Nat->Nat->Bool) (n:Nat) (a b:Int):Bool:=decide (0<=a) && decide (a < n) && decide (0<=b) && decide (b < n) && f a.toNat b.toNat
def jnF (f:Nat->Nat->Bool) (n a b:Nat):Nat:=(ij f n a b).getD 0
def YM (f:Nat->Nat->Bool) (n:Nat):Nat:=(iN f n []).getD 0
theorem QR {f:Nat->Nat->Bool} {n a b:Nat} (ha:a < n) (hb:b < n):QQ f n a b=f a b:=by simp [QQ,ha,hb]
theorem QS {f:Nat->Nat->Bool} {n a b:Nat} (h:kv f n) (ha:a < n) (hb:b < n):ij f n a b=some (jnF f n a b):=by
 obtain ⟨k,hk⟩:=h.jn a b ha hb;simp [jnF,hk]
theorem MG {f:Nat->Nat->Bool} {n:Nat} (h:kv f n):iN f n []=some (YM f n):=by
 obtain ⟨c,hc⟩:=uE h [] (fun _ h=>by cases h);simp [YM,hc]
section
variable (af:List ByteArray) (tc:List DV) (rows:List Nat) (js:List Int)
theorem MH (hr:eC rows) (hl:rows.length=af.length) (a b:Int) :
  bA prog 186 [.pt (iL af tc rows js) 0,.v (.int .i64 a),.v (.int .i64 b)] (.v (.bool (hasB rows a b))):=by
 have h1:=AH af tc rows js;have h2:=lZ rows hr a b;have hB:hasB rows a b=(decide (0<=a) && decide (a < af.length) && decide (0<=b) && decide (b < af.length) && bf rows a.toNat b.toNat):=by rw [<- hl];all_goals rfl
 generalize hasB rows a b=h at h2 hB ⊢;refine eG 24 [.tmp 6] func186 rfl ntmps186 rfl fun _ _ _ _=>?_;refine cP Ab (h1 a) ?_;refine br ?_ ?_<;>intro g
 ·refine cP Ab (h1 b) ?_;refine br ?_ ?_<;>intro g2
  ·refine cP Eo h2 ?_;exact (rfl:_=_)
  ·refine (dP ?_:);rw [hB];simp only [Bool.and_assoc] at g g2 ⊢;cases hx:decide (0<=b)<;>cases hy:decide (b < af.length)<;>simp_all [pickB]
 ·refine (dP ?_:);rw [hB];cases hx:decide (0<=a)<;>cases hy:decide (a < af.length)<;>simp_all [pickB]
end
structure ac4 (n:Nat) (f:Nat->Nat->Bool) (af:List ByteArray) (LC:List DV):Prop where
 ok:kv f n
 n32:n<=32
 nl:af.length=n
 len:bA prog 110 [.pt LC 0] (.v (.int .i64 n))
 leq:∀ a b:Int,bA prog 186 [.pt LC 0,.v (.int .i64 a),.v (.int .i64 b)] (.v (.bool (QQ f n a b)))
 join:∀ a b:Nat,a < n->b < n->bA prog 217 [.pt LC 0,.v (.int .i64 a),.v (.int .i64 b)] (.v (.int .i64 (jnF f n a b:Nat)))
 bot:bA prog 46 [.pt LC 0] (.v (.int .i64 (YM f n:Nat)))
abbrev me (S:Sch):Nat->Nat->Bool:=jL S.ae.length (fT (aO S.ae) S.order)
theorem mc.latR {S:Sch} {ND:List Nd} {PC:List DV} (hP:mc S ND PC):∃ LC,bA prog 45 [.pt PC 0] (.pt LC 0)/\ac4 S.ae.length (me S) (aO S.ae) LC:=by
 obtain ⟨aN,js,hX,hl⟩:=hP.lat;have kR:=gn S.ae;have Yk:=(hP.fine).lat;obtain ⟨hL,YE⟩:=xV Yk;have hpr:∀ p∈fT (aO S.ae) S.order,p.1 < S.ae.length/\p.2 < S.ae.length:=by have:=vC (xU Yk).2.2.1;rwa [gn] at this
 have gY:(eD S aN js).rows.length=S.ae.length:=by
  show (closeR (fJ S.ae.length (fT (aO S.ae) S.order)) S.ae.length).length=_;rw [fK,kr]
 have hr:eC (eD S aN js).rows:=l7 (Cy (by omega) _ hpr) _ (by omega)
 refine ⟨_,hl,{
  ok:=hL,n32:=YE,nl:=kR
  len:=?_
  leq:=fun a b=>?_
  join:=fun a b ha hb=>?_
  bot:=?_
  }⟩
 ·have:=tj (eD S aN js).af (dm (eD S aN js).af (eD S aN js).aN) (eD S aN js).rows (eD S aN js).js
  rwa [show (eD S aN js).af.length=S.ae.length from kR] at this
 ·have:=MH (eD S aN js).af (dm (eD S aN js).af (eD S aN js).aN) (eD S aN js).rows (eD S aN js).js hr (by rw [gY];exact kR.symm) a b
  have he:hasB (eD S aN js).rows a b=QQ (me S) S.ae.length a b:=by
   unfold hasB QQ;rw [gY];all_goals rfl
  rwa [he] at this
 ·have hz:=(hX.hj a b (by rw [show (eD S aN js).af.length=S.ae.length from kR];exact ha) (by rw [show (eD S aN js).af.length=S.ae.length from kR];exact hb)).1;rw [show (eD S aN js).af.length=S.ae.length from kR,show (eD S aN js).f=me S from rfl,QS hL ha hb] at hz;exact xK (eD S aN js).af (dm (eD S aN js).af (eD S aN js).aN) (eD S aN js).rows (eD S aN js).js a b _ (by rw [show (eD S aN js).af.length=S.ae.length from kR];exact ha) (by rw [show (eD S aN js).af.length=S.ae.length from kR];exact hb) hX.hn hz
 ·have:=rM (eD S aN js).af (dm (eD S aN js).af (eD S aN js).aN) (eD S aN js).rows (eD S aN js).js hX.hL hX.hn hX.hj
  rwa [show (eD S aN js).af.length=S.ae.length from kR,show (eD S aN js).f=me S from rfl,MG hL] at this
theorem MI {L:Nat} {ND:List Nd} {d:Nd} (hN:QL L ND.length d) {e:Ed} (he:e∈d.cB):(e.bare=false->e.to=(e.to.toNat:Nat)/\e.to.toNat < ND.length)/\(e.label=(e.label.toNat:Nat)/\e.label.toNat < L)/\(e.seen=(e.seen.toNat:Nat)/\e.seen.toNat < L):=by
 have hE:=hN.Md e he;refine ⟨fun hb=>?_,?_,?_⟩
 ·obtain ⟨k,h1,h2⟩:=hE.to1 hb;rw [h1];exact ⟨by simp,by simpa using h2⟩
 ·obtain ⟨k,h1,h2⟩:=hE.lab;rw [h1];exact ⟨by simp,by simpa using h2⟩
 ·obtain ⟨k,h1,h2⟩:=hE.seen;rw [h1];exact ⟨by simp,by simpa using h2⟩
section
variable (ND:List Nd) (f:Nat->Nat->Bool) (n obs dep:Nat)
end
theorem vI (s:ByteArray) (n:Nat) (h:s.size<=1099511627776):tx (s.extract n (s.size:Int).toNat)=(tx s).drop n:=by
 simp [tx,lD];exact List.take_of_length_le (by rw [List.length_drop];have:=bH s;unfold tx at this;omega)
theorem o0 (s:ByteArray):s=⟨#[]⟩↔tx s=[]:=⟨fun h=>by rw [h];rfl,fun h=>by rw [<- JZ s,h]⟩
def kx (c:Nat):Nat:=if 48<=c/\c<=57 then c - 48 else if 97<=c/\c<=102 then c - 87 else if 65<=c/\c<=70 then c - 55 else 16
def jM (l:List UInt8):Nat:=l.foldl (fun n c=>n * 16 + kx c.toNat) 0
def yg (l:List UInt8):Bool:=l.all fun c=>decide (kx c.toNat < 16)
def jN (l:List UInt8):Bool:=!l.isEmpty && yg l
def scaP:List UInt8->List UInt8 × Nat
 | []=>([],0)
 | c :: t=>if c.toNat=123/\t.idxOf 125 < t.length/\t.idxOf 125<=6/\jN (t.take (t.idxOf 125))=true then (EY (jM (t.take (t.idxOf 125))),t.idxOf 125 + 2) else ([],0)
def oneE (q:List UInt8):List UInt8 × Nat:=
 match q with
 | []=>([],0)
 | [_]=>([],0)
 | b :: c :: r=>
  if b.toNat≠92 then ([],0) else if c.toNat=34∨c.toNat=92 then ([c],2) else if c.toNat=116 then ([9],2) else if c.toNat=110 then ([10],2) else if c.toNat=114 then ([13],2)
  else if c.toNat=120 then (if 2<=r.length/\jN (r.take 2)=true then ([UInt8.ofNat (jM (r.take 2))],4) else ([],0))
  else if c.toNat=117 then (if (scaP r).1=[] then ([],0) else ((scaP r).1,2 + (scaP r).2)) else ([],0)
theorem QT (c:Nat):kx c<=16:=by unfold kx;split<;>(try split)<;>(try split)<;>omega
theorem A8 {l:List UInt8} {e:Nat} {c:UInt8} (h:l[e]? = some c):jM (l.take (e + 1))=jM (l.take e) * 16 + kx c.toNat:=by
 rw [jM,List.take_add_one,h,List.foldl_append];rfl
theorem A9 {l:List UInt8} {e:Nat} {c:UInt8} (h:l[e]? = some c):yg (l.take (e + 1))=(yg (l.take e) && decide (kx c.toNat < 16)):=by
 rw [yg,List.take_add_one,h,List.all_append];simp [yg]
theorem QU {l:List UInt8} {c:UInt8} (h:c∈l) (hd:¬ kx c.toNat < 16):yg l=false:=by
 rw [yg,List.all_eq_false];exact ⟨c,h,by simpa using hd⟩
theorem Kp:∀ l:List UInt8,yg l=true->jM l < 16 ^ l.length:=by
 intro l;rw [<- List.take_of_length_le (bn l.length)]
 have:∀ k,k<=l.length->yg (l.take k)=true->jM (l.take k) < 16 ^ k:=by
  intro k
  induction k with
  | zero=>intro _ _;simp [jM]
  | succ k ih=>
   intro hk h;obtain ⟨c,hc⟩:∃ c,l[k]? = some c:=⟨_,gE (by omega)⟩;rw [A9 hc,bg,decide_eq_true_iff] at h
   grind [A8]
 grind
theorem hexN_6 {l:List UInt8} (h:yg l=true) (hl:l.length<=6):jM l < 16777216:=by
 have:=Kp l h;have:16 ^ l.length<=16 ^ 6:=Nat.pow_le_pow_right (by decide) hl;omega
theorem Iw (c:Nat) (hc:c < 256):bA prog 362 [.v (.int .u8 c)] (.v (.int .u32 (kx c:Nat))):=by
 have e1:∀ z:Int,DV.v (Value.int .u32 z) = .v (.int .u32 (kx c:Nat))↔z=(kx c:Nat):=by simp
 unfold kx at e1;unfold kx;refine eG 35 [.tmp 2] func362 rfl ntmps362 rfl fun _ _ _ _=>?_;refine br ?_ ?_<;>intro g
 ·have g:48<=c/\c<=57:=by simp [aC] at g;omega
  refine (e1 _).2 ?_;rw [ah g];simp only [IntKind.wrap_u8',IntKind.wrap_u32'];omega
 have g1:¬ (48<=c/\c<=57):=by simp [aC] at g;omega
 refine br ?_ ?_<;>intro g
 ·have g:97<=c/\c<=102:=by simp [aC] at g;omega
  refine (e1 _).2 ?_;rw [ag g1,ah g];simp only [IntKind.wrap_u8',IntKind.wrap_u32'];omega
 have g2:¬ (97<=c/\c<=102):=by simp [aC] at g;omega
 refine br ?_ ?_<;>intro g
 ·have g:65<=c/\c<=70:=by simp [aC] at g;omega
  refine (e1 _).2 ?_;rw [ag g1,ag g2,ah g];simp only [IntKind.wrap_u8',IntKind.wrap_u32'];omega
 have g3:¬ (65<=c/\c<=70):=by simp [aC] at g;omega
 rw [ag g1,ag g2,ag g3];exact (rfl:_=_)
abbrev QV (l:List UInt8):DV:=.bK [.v (.int .u32 (if jN l=true then jM l else 0:Nat)),.v (.bool (jN l))]
abbrev YN (s:ByteArray) (n:Int) (e:Nat):St:=⟨[(0,⟨[],.v (.string s)⟩),(4,⟨[],.v (.int .u32 n)⟩),aJ 8 s.size,aJ 9 e],[],[]⟩
theorem pS (s:ByteArray) (hs:s.size<=6):bA prog 354 [.v (.string s)] (QV (tx s)):=by
 refine eG 26 [.tmp 2,.tmp 3] func354 rfl ntmps354 rfl fun _ _ _ _=>?_;refine lI (fun j st=>∃ e:Nat,st=YN s (jM ((tx s).take e):Nat) e/\e<=s.size/\yg ((tx s).take e)=true/\j=s.size - e) ⟨0,rfl,by omega,rfl,rfl⟩ (dg wB) ?_;rintro j st ⟨e,rfl,he,hA,rfl⟩;have Wz:=hexN_6 hA (by rw [zLenT,bH];omega);refine br ?_ ?_<;>intro h
 ·have aE:e < s.size:=sU h;obtain ⟨c,fx,hb⟩:=bJ aE
  have PV:(tx s)[e]? = some c:=by
   have:=congrArg List.head? fx
   rwa [List.head?_drop,List.head?_cons] at this
  have nV:aA s (e:Int).toNat=c.toNat:=hb;have fD:=c.toNat_lt;have hdg:=Iw c.toNat (by omega);have qM:=QT c.toNat;have zn:=A8 PV;have hsa:=A9 PV;rw [hA,Bool.true_and] at hsa;refine ⟨⟨by omega,by omega⟩,?_⟩;rw [<- nV] at hdg;refine cP abH hdg ?_;rw [nV];refine br ?_ ?_<;>intro g
  ·have g:¬ kx c.toNat < 16:=by have:=of_decide_eq_true g;omega
   have hF:jN (tx s)=false:=by rw [jN,QU (mG PV) g,Bool.and_false]
   have e0:QV (tx s) = .bK [.v (.int .u32 0),.v (.bool false)]:=by rw [QV,hF];all_goals rfl
   exact ⟨_,ax,e0.symm⟩
  ·have g:kx c.toNat < 16:=by have:=of_decide_eq_false g;omega
   rw [decide_eq_true g] at hsa;have hn7:=hexN_6 hsa (by rw [zLenT,bH];omega)
   have hw:IntKind.u32.wrap (IntKind.u32.wrap ((jM ((tx s).take e):Nat) * 16) + (kx c.toNat:Nat))=(jM ((tx s).take (e + 1)):Nat):=by
    rw [IntKind.wrap_u32',IntKind.wrap_u32'];omega
   exact rE ⟨_,by omega,e + 1,rfl,by omega,hsa,rfl⟩ (dg (re (cR aE (by omega)) hw))
 ·have hge:e=s.size:=by simp at h;omega
  subst hge;rw [List.take_of_length_le (by rw [bH];exact bn _)] at hA ⊢;by_cases h0:tx s=[]
  ·have q7:=(o0 s).2 h0;subst q7;exact ⟨_,ax,rfl⟩
  ·have hB:jN (tx s)=true:=by grind [jN,tx]
   have hn:¬ s=⟨#[]⟩:=fun h=>h0 ((o0 s).1 h);have hX:DV.v (.bool (!decide (s=⟨#[]⟩))) = .v (.bool (jN (tx s))):=by rw [hB,decide_eq_false hn];all_goals rfl
   have hY:DV.v (.int .u32 (jM (tx s):Nat)) = .v (.int .u32 (if jN (tx s)=true then jM (tx s) else 0:Nat)):=by rw [hB];all_goals rfl
   exact ⟨_,(by repeat' (first | exact rfl | exact trivial | exact Or.inr (Or.inl ⟨_,rfl⟩) | exact Or.inr ⟨_,rfl⟩ | exact Or.inl ⟨rfl,rfl⟩ | exact Or.inl rfl | refine Or.inr ⟨_,_,rfl,Nat.zero_le _,rfl,?_⟩ | refine ⟨_,_,rfl,?_,?_⟩ | refine ⟨_,rfl,?_⟩ | exact hX | exact hY | refine Or.inr (Or.inr (Or.inr ⟨_,_,rfl,?_⟩)) | exact Or.inl rfl | refine Or.inr ?_)),rfl⟩
theorem Ix (z:Int):bA prog 364 [.v (.int .i32 z)] (.v (.bool (Au z))):=by
 refine eG 17 [.tmp 2] func364 rfl ntmps364 rfl fun _ _ _ _=>?_;refine (dP ?_:);simp only [aC,aD,Au]
theorem Up {a b m:Nat} (k:Nat) (hk:a=2 ^ k * m) (hb:b < 2 ^ k) (ha:a < 256) (iW:b < 256) (hs:a + b < 256):IntKind.u8.wrap ((BitVec.ofInt IntKind.u8.bits (a:Int) ||| BitVec.ofInt IntKind.u8.bits (b:Int)).toNat:Nat)=((a + b:Nat):Int):=by
 show IntKind.u8.wrap ((BitVec.ofInt 8 (a:Int) ||| BitVec.ofInt 8 (b:Int)).toNat:Nat)=_;have e:∀ x:Nat,x < 256->(BitVec.ofInt 8 (x:Int)).toNat=x:=fun x hx=>by rw [BitVec.toNat_ofInt];omega
 rw [BitVec.toNat_or,e a ha,e b iW,hk,<- Nat.two_pow_add_eq_or_of_lt hb,IntKind.wrap_u8',<- hk];omega
theorem ac5 {n:Nat} (hn:n<=1114111):IntKind.i32.wrap ((BitVec.ofInt IntKind.i32.bits (n:Int) &&& BitVec.ofInt IntKind.i32.bits 63).toNat:Nat)=((n % 64:Nat):Int):=by
 show IntKind.i32.wrap ((BitVec.ofInt 32 (n:Int) &&& BitVec.ofInt 32 63).toNat:Nat)=_;rw [BitVec.toNat_and,Pw (by omega),show (BitVec.ofInt 32 63).toNat=2 ^ 6 - 1 from rfl,Nat.and_two_pow_sub_one_eq_mod];exact EW (by omega) (by omega)
theorem ng (n:Nat) (hn:n<=1114111):bA prog 365 [.v (.int .i32 n)] (.v (.int .u8 (128 + n % 64:Nat))):=by
 refine eG 7 [.tmp 2] func365 rfl ntmps365 rfl fun _ _ _ _=>?_;refine (congrArg (fun z=>DV.v (.int .u8 z)) ?_:_=_);have h1:=ac5 hn;have h2:IntKind.u8.wrap ((n % 64:Nat):Int)=((n % 64:Nat):Int):=by rw [IntKind.wrap_u8'];omega
 have h3:=Up (a:=128) (b:=n % 64) (m:=2) 6 rfl (by omega) (by omega) (by omega) (by omega);rw [h1,h2];exact h3
theorem MJ (z:Int):bA prog 363 [.v (.int .i32 z)] (.v (.string (ba (EY z)))):=by
 have hs:=Ix z;have hE:EY z=if Au z=true then L6 z.toNat else []:=rfl
 have hB:Au z=(decide (0<=z) && decide (z<=1114111) && (decide (z < 55296) || decide (57343 < z))):=rfl;generalize EY z=E at hE ⊢;generalize Au z=B at hs hE hB;refine eG 53 [.tmp 2] func363 rfl ntmps363 rfl fun _ _ _ _=>?_;refine cP abJ hs ?_
 cases B with
 | false=>
  rw [ag (by simp)] at hE;subst hE;exact (rfl:_=_)
 | true=>
  rw [ah rfl] at hE;have hB:=hB.symm;simp at hB;obtain ⟨n,hzn⟩:∃ n:Nat,z=n:=⟨z.toNat,by omega⟩;have hzt:z.toNat=n:=by omega
  rw [hzt] at hE;have hn:n<=1114111:=by omega
  unfold L6 at hE;refine br ?_ ?_<;>intro c
  ·have c:n < 128:=by have:=of_decide_eq_true c;omega
   rw [ah c] at hE;refine ⟨[UInt8.ofNat (n)],?_,?_⟩
   ·rw [hzn];grind [u8L,b8]
   ·rw [hE];exact (rfl:_=_)
  have c1:¬ n < 128:=by have:=of_decide_eq_false c;omega
  rw [ag c1] at hE
  have h6:z.fdiv (2 ^ min (Int.toNat 6) IntKind.i32.bits)=((n / 64:Nat):Int):=by
   rw [hzn,Int.fdiv_eq_ediv_of_nonneg _ (by decide)];all_goals rfl
  have h12:z.fdiv (2 ^ min (Int.toNat 12) IntKind.i32.bits)=((n / 4096:Nat):Int):=by
   rw [hzn,Int.fdiv_eq_ediv_of_nonneg _ (by decide)];all_goals rfl
  have h18:z.fdiv (2 ^ min (Int.toNat 18) IntKind.i32.bits)=((n / 262144:Nat):Int):=by
   rw [hzn,Int.fdiv_eq_ediv_of_nonneg _ (by decide)];all_goals rfl
  have w8:∀ k:Nat,k < 256->IntKind.u8.wrap ((k:Nat):Int)=((k:Nat):Int):=fun k hk=>by rw [IntKind.wrap_u8'];omega
  have hf:=ng n hn;rw [<- hzn] at hf;have hf6:=ng (n / 64) (by omega);have ac7:=ng (n / 4096) (by omega);rw [<- h6] at hf6;rw [<- h12] at ac7;have tn:∀ k:Nat,k < 256->(UInt8.ofNat k).toNat=k:=fun k hk=>by rw [UInt8.toNat_ofNat'];omega
  refine br ?_ ?_<;>intro c
  ·have c:n < 2048:=by have:=of_decide_eq_true c;omega
   rw [ah c] at hE;refine ⟨by omega,?_⟩;refine cP Ae hf ?_;refine ⟨[UInt8.ofNat (192 + n / 64),UInt8.ofNat (128 + n % 64)],?_,?_⟩
   ·have:=Up (a:=192) (b:=n / 64) (m:=3) 6 rfl (by omega) (by omega) (by omega) (by omega);rw [h6,w8 (n / 64) (by omega)];simp only [u8L,List.map_cons,List.map_nil,tn _ (show 192 + n / 64 < 256 by omega),tn _ (show 128 + n % 64 < 256 by omega),List.flatten_cons,List.flatten_nil,List.append_nil,List.cons_append,List.nil_append];exact congrArg (fun z=>[DV.v (.int .u8 z),.v (.int .u8 ((128 + n % 64:Nat):Int))]) this
   ·rw [hE];exact (rfl:_=_)
  have c2:¬ n < 2048:=by have:=of_decide_eq_false c;omega
  rw [ag c2] at hE;refine br ?_ ?_<;>intro c
  ·have c:n < 65536:=by have:=of_decide_eq_true c;omega
   rw [ah c] at hE;refine ⟨by omega,?_⟩;refine ⟨by omega,?_⟩;refine cP Ae hf6 ?_;refine cP Ae hf ?_;refine ⟨[UInt8.ofNat (224 + n / 4096),UInt8.ofNat (128 + n / 64 % 64),UInt8.ofNat (128 + n % 64)],?_,?_⟩
   ·have:=Up (a:=224) (b:=n / 4096) (m:=7) 5 rfl (by omega) (by omega) (by omega) (by omega);rw [h12,w8 (n / 4096) (by omega)];simp only [u8L,List.map_cons,List.map_nil,tn _ (show 224 + n / 4096 < 256 by omega),tn _ (show 128 + n / 64 % 64 < 256 by omega),tn _ (show 128 + n % 64 < 256 by omega),List.flatten_cons,List.flatten_nil,List.append_nil,List.cons_append,List.nil_append];exact congrArg (fun z=>[DV.v (.int .u8 z),.v (.int .u8 ((128 + n / 64 % 64:Nat):Int)),.v (.int .u8 ((128 + n % 64:Nat):Int))]) this
   ·rw [hE];exact (rfl:_=_)
  have c3:¬ n < 65536:=by have:=of_decide_eq_false c;omega
  rw [ag c3] at hE;refine ⟨by omega,?_⟩;refine ⟨by omega,?_⟩;refine cP Ae ac7 ?_;refine ⟨by omega,?_⟩;refine cP Ae hf6 ?_;refine cP Ae hf ?_;refine ⟨[UInt8.ofNat (240 + n / 262144),UInt8.ofNat (128 + n / 4096 % 64),UInt8.ofNat (128 + n / 64 % 64),UInt8.ofNat (128 + n % 64)],?_,?_⟩
  ·have:=Up (a:=240) (b:=n / 262144) (m:=15) 4 rfl (by omega) (by omega) (by omega) (by omega);rw [h18,w8 (n / 262144) (by omega)];simp only [u8L,List.map_cons,List.map_nil,tn _ (show 240 + n / 262144 < 256 by omega),tn _ (show 128 + n / 4096 % 64 < 256 by omega),tn _ (show 128 + n / 64 % 64 < 256 by omega),tn _ (show 128 + n % 64 < 256 by omega),List.flatten_cons,List.flatten_nil,List.append_nil,List.cons_append,List.nil_append];exact congrArg (fun z=>[DV.v (.int .u8 z),.v (.int .u8 ((128 + n / 4096 % 64:Nat):Int)),.v (.int .u8 ((128 + n / 64 % 64:Nat):Int)),.v (.int .u8 ((128 + n % 64:Nat):Int))]) this
  ·rw [hE];exact (rfl:_=_)
theorem CR:bA prog 348 [] (.sl 2 Ma none):=by
 refine eG 4 [.tmp 0] func348 rfl ntmps348 rfl fun _ _ _ _=>?_;exact ⟨_,ax,rfl⟩
theorem MK:bA prog 349 [] (.sl 2 Av none):=by
 refine eG 6 [.tmp 0] func349 rfl ntmps349 rfl fun _ _ _ _=>?_;exact ⟨_,ax,rfl⟩
theorem FM:bA prog 350 [] (.sl 2 Mc none):=by
 refine eG 19 [.tmp 0] func350 rfl ntmps350 rfl fun _ _ _ _=>?_;exact ⟨_,ax,rfl⟩
theorem yh:bA prog 351 [] (.sl 2 Mb none):=by
 refine eG 3 [.tmp 0] func351 rfl ntmps351 rfl fun _ _ _ _=>?_;exact ⟨_,ax,rfl⟩
theorem rT (es:List (List DV)) (z:Int) (hl:es.length<=1000) (hs:es.all spB=true) (m:Int) (ho:srtB m es=true):bA prog 347 [.sl 2 es none,.v (.int .i32 z)] (.v (.bool (es.any (vj z)))):=
 (TH es z hl hs).mono fun d _ _ ⟨b,h1,h2⟩=>by rw [h1,h2 m ho]
theorem uF (z:Int):bA prog 289 [.v (.int .i32 z)] (.v (.bool (pD z))):=by
 have hk:Ev prog 331 [.v (.int .i32 z)] [] [] (fun d _ _=>∃ k:Int,d = .v (.int .i64 k)/\(!decide (k=0))=pD z):=by
  have h1:=rT Ma z (by decide) (by decide) (-1) (by decide);have h2:=rT Av z (by decide) (by decide) (-1) (by decide);have h3:=rT Mc z (by decide) (by decide) (-1) (by decide);have h4:=rT Mb z (by decide) (by decide) (-1) (by decide);have hB:pD z=(((Ma.any (vj z) || Av.any (vj z)) || Mc.any (vj z)) || Mb.any (vj z)):=rfl;rw [hB];generalize Ma.any (vj z)=b1 at h1;generalize Av.any (vj z)=b2 at h2;generalize Mc.any (vj z)=b3 at h3;generalize Mb.any (vj z)=b4 at h4;generalize hT1:Ma=T1 at h1;generalize hT2:Av=T2 at h2;generalize hT3:Mc=T3 at h3;generalize hT4:Mb=T4 at h4;have c1:=CR;have c2:=MK;have c3:=FM;have c4:=yh;rw [hT1] at c1;rw [hT2] at c2;rw [hT3] at c3;rw [hT4] at c4;refine eG 19 [.tmp 2] func331 rfl ntmps331 rfl fun _ _ _ _=>?_;refine cP abz c1 ?_;refine cP JS h1 ?_
  cases b1 with
  | true=>exact ⟨_,rfl,rfl⟩
  | false=>
  refine cP abA c2 ?_;refine cP JS h2 ?_
  cases b2 with
  | true=>exact ⟨_,rfl,rfl⟩
  | false=>
  refine cP abB c3 ?_;refine cP JS h3 ?_
  cases b3 with
  | true=>exact ⟨_,rfl,rfl⟩
  | false=>
  refine cP abC c4 ?_;refine cP JS h4 ?_
  cases b4 with
  | true=>exact ⟨_,rfl,rfl⟩
  | false=>exact ⟨_,rfl,rfl⟩
 refine eG 6 [.tmp 2] func289 rfl ntmps289 rfl fun _ _ _ _=>?_;refine eo abx rfl hk ax (fun q hq=>?_);obtain ⟨k,rfl,hk⟩:=hq;refine (dP ?_:);exact hk
theorem FN (l:List UInt8) (c:UInt8):Lib.indexByte l c=if l.idxOf c < l.length then (l.idxOf c:Int) else -1:=by
 induction l with
 | nil=>rfl
 | cons b l ih=>
  unfold Lib.indexByte
  grind
abbrev scaD (p:List UInt8 × Nat):DV:=.bK [.v (.string (ba p.1)),.v (.int .i64 p.2)]
theorem FO (s:ByteArray) (hs:s.size<=1099511627776):bA prog 355 [.v (.string s)] (scaD (scaP (tx s))):=by
 have hx:=EV s 125;have hi:=FN (tx s) 125;have e1:(125:Int).toNat.toUInt8=125:=rfl;rw [e1] at hx;generalize Lib.indexByte (tx s) 125=I at hx hi;refine eG 38 [.tmp 2,.tmp 3] func355 rfl ntmps355 rfl fun _ _ _ _=>?_;refine cP VU hx ?_;have nE:=bH s
 cases YO:tx s with
 | nil=>
  have q7:=(o0 s).2 YO;refine br (fun g=>absurd q7 (sU g)) (fun _=>?_);exact ⟨_,ax,rfl⟩
 | cons c t=>
  rw [YO,List.length_cons] at nE;have q7:¬ s=⟨#[]⟩:=fun h=>by rw [(o0 s).1 h] at YO;cases YO
  have nV:aA s (0:Int).toNat=c.toNat:=xn (s:=s) YO (z:=0) 0 rfl;have WA:¬ (c.toNat=123/\t.idxOf 125 < t.length/\t.idxOf 125<=6/\jN (t.take (t.idxOf 125))=true)->scaP (c :: t)=([],0):=fun h=>by rw [scaP,ag h]
  refine br (fun _=>?_) (fun g=>absurd (sU g) q7);refine ⟨⟨by omega,by omega⟩,?_⟩;rw [nV]
  have hcn:c.toNat=123->(c == 125)=false:=fun h=>by
   apply beq_eq_false_iff_ne.2;intro h';rw [h'] at h;cases h
  rw [YO,List.idxOf_cons,List.length_cons] at hi;refine br ?_ ?_<;>intro g
  ·rw [WA (fun ⟨h1,h2,h3,_⟩=>by
    rw [hcn h1] at hi;simp only [cond_false] at hi;rw [ah (by omega)] at hi;simp [aD,h1] at g
    omega)]
   exact ⟨_,ax,rfl⟩
  have g2:c.toNat=123/\0<=I/\I<=7:=by
   simp [aD] at g;omega
  obtain ⟨hc,hI0,hI7⟩:=g2;rw [hcn hc] at hi;simp only [cond_false] at hi
  have hk:t.idxOf 125 < t.length:=by
   rcases Nat.lt_or_ge (t.idxOf 125) t.length with h | h
   ·exact h
   ·rw [ag (by omega)] at hi;omega
  rw [ah (by omega)] at hi;have hS:scaP (c :: t)=if c.toNat=123/\t.idxOf 125 < t.length/\t.idxOf 125<=6/\jN (t.take (t.idxOf 125))=true then (EY (jM (t.take (t.idxOf 125))),t.idxOf 125 + 2) else ([],0):=rfl
  generalize scaP (c :: t)=S at hS ⊢;generalize t.idxOf 125=k at hi hk WA hS;have hk6:k<=6:=by omega
  refine ⟨⟨by omega,by omega,by omega⟩,?_⟩
  have yi:tx (s.extract (1:Int).toNat I.toNat)=t.take k:=by
   have e2:I.toNat=k + 1:=by omega
   rw [e2];have:tx (s.extract 1 (k + 1))=((tx s).take (k + 1)).drop 1:=by simp [tx,List.drop_take]
   rw [show (1:Int).toNat=1 from rfl,this,YO];simp
  have iM:=pS (s.extract (1:Int).toNat I.toNat) (by
   have:=congrArg List.length yi;rw [bH,zLenT] at this
   omega)
  rw [yi] at iM;have Wz:jN (t.take k)=true->jM (t.take k) < 16777216:=fun h=>hexN_6 (by rw [jN,bg] at h;exact h.2) (by rw [zLenT];omega);have hnD:QV (t.take k) = .bK [.v (.int .u32 (if jN (t.take k)=true then jM (t.take k) else 0:Nat)),.v (.bool (jN (t.take k)))]:=rfl;rw [hnD] at iM;generalize jN (t.take k)=B at iM Wz hS;generalize jM (t.take k)=N at iM Wz hS;generalize s.extract (1:Int).toNat I.toNat=X at iM ⊢
  cases B with
  | false=>
   rw [ag (fun h=>by simpa using h.2.2.2)] at hS;rw [ag (by simp)] at iM;subst hS;refine cP JT iM ?_;exact ⟨_,ax,rfl⟩
  | true=>
   rw [ah ⟨hc,hk,hk6,rfl⟩] at hS;rw [ah rfl] at iM;subst hS;have hN:=Wz rfl;have hw:IntKind.i32.wrap ((N:Nat):Int)=((N:Nat):Int):=EW (by omega) (by omega)
   have he:bA prog 363 [.v (.int .i32 (IntKind.i32.wrap ((N:Nat):Int)))] (.v (.string (ba (EY (N:Nat))))):=by
    rw [hw];exact MJ (N:Nat)
   have lL:IntKind.i64.wrap (I + 1)=((k + 2:Nat):Int):=by rw [wrap64 (by omega) (by omega)];omega
   refine cP JT iM ?_;refine cP abI he ?_;have hX:=congrArg (fun z=>DV.v (.int .i64 z)) lL;exact ⟨_,(by repeat' (first | exact rfl | exact trivial | exact Or.inr (Or.inl ⟨_,rfl⟩) | exact Or.inr ⟨_,rfl⟩ | exact Or.inl ⟨rfl,rfl⟩ | exact Or.inl rfl | refine Or.inr ⟨_,_,rfl,Nat.zero_le _,rfl,?_⟩ | refine ⟨_,_,rfl,?_,?_⟩ | refine ⟨_,rfl,?_⟩ | exact hX | refine Or.inr (Or.inr (Or.inr ⟨_,_,rfl,?_⟩)) | exact Or.inl rfl | refine Or.inr ?_)),rfl⟩
abbrev oneD (p:List UInt8 × Nat):DV:=.bK [.v (.string (ba p.1)),.v (.int .i64 p.2),.v (.bool (decide (p.2≠0)))]
set_option maxHeartbeats 2000000 in
theorem FP (s:ByteArray) (hs:s.size<=1099511627776) (i:Nat) (hi:i < s.size):bA prog 336 [.v (.string s),.v (.int .i64 i)] (oneD (oneE ((tx s).drop i))):=by
 have nE:=bH s;obtain ⟨b,fx,hb⟩:=bJ hi;have fx:(tx s).drop i=b :: (tx s).drop (i + 1):=fx;rw [fx];have zA:IntKind.i64.wrap ((i:Int) + 1)=((i + 1:Nat):Int):=cR hi (by omega);have lL:IntKind.i64.wrap ((i:Int) + 2)=((i + 2:Nat):Int):=by rw [wrap64 (by omega) (by omega)];omega
 have DA:IntKind.i64.wrap ((s.size:Int) - 2)=(s.size:Int) - 2:=wrap64 (by omega) (by omega);have nV:aA s (i:Int).toNat=b.toNat:=hb;by_cases h2:i + 1 < s.size
 rotate_left
 ·have ab3:(tx s).drop (i + 1)=[]:=List.drop_eq_nil_of_le (by omega);rw [ab3];refine eG 78 [.tmp 4,.tmp 5,.tmp 6] func336 rfl ntmps336 rfl fun _ _ _ _=>?_;refine br (fun g=>?_) (fun _=>?_)
  ·exfalso;rw [DA] at g;simp [aD] at g;omega
  exact ⟨_,ax,rfl⟩
 obtain ⟨c,pG,hc⟩:=bJ h2;have pG:(tx s).drop (i + 1)=c :: (tx s).drop (i + 2):=pG;rw [pG];have PV:aA s (IntKind.i64.wrap ((i:Int) + 1)).toNat=c.toNat:=by rw [zA];exact hc
 have yi:tx (s.extract (IntKind.i64.wrap ((i:Int) + 2)).toNat (s.size:Int).toNat)=(tx s).drop (i + 2):=by rw [lL];exact vI s (i + 2) hs
 have Jx:(s.extract (IntKind.i64.wrap ((i:Int) + 2)).toNat (s.size:Int).toNat).size=s.size - (i + 2):=by
  have:=congrArg List.length yi;rw [bH,List.length_drop,nE] at this;exact this
 have wh:=FO (s.extract (IntKind.i64.wrap ((i:Int) + 2)).toNat (s.size:Int).toNat) (by omega);rw [yi] at wh;generalize (tx s).drop (i + 2)=r at yi wh ⊢;have gY:r.length=s.size - (i + 2):=by rw [<- yi,bH];exact Jx
 generalize hRR:s.extract (IntKind.i64.wrap ((i:Int) + 2)).toNat (s.size:Int).toNat=R at yi wh Jx
 have hO:oneE (b :: c :: r)=if b.toNat≠92 then ([],0) else if c.toNat=34∨c.toNat=92 then ([c],2) else if c.toNat=116 then ([9],2) else if c.toNat=110 then ([10],2) else if c.toNat=114 then ([13],2)
  else if c.toNat=120 then (if 2<=r.length/\jN (r.take 2)=true then ([UInt8.ofNat (jM (r.take 2))],4) else ([],0))
  else if c.toNat=117 then (if (scaP r).1=[] then ([],0) else ((scaP r).1,2 + (scaP r).2)) else ([],0):=rfl
 generalize oneE (b :: c :: r)=O at hO ⊢;refine eG 78 [.tmp 4,.tmp 5,.tmp 6] func336 rfl ntmps336 rfl fun _ _ _ _=>?_;refine br (fun _=>?_) (fun g=>?_)
 rotate_left
 ·exfalso;rw [DA] at g;simp [aD] at g;omega
 refine ⟨⟨by omega,by omega⟩,?_⟩;rw [nV];refine br ?_ ?_<;>intro g
 ·rw [ah (by intro h;simp [aD,h] at g)] at hO;subst hO;exact ⟨_,ax,rfl⟩
 have hb92:b.toNat=92:=by simp [aD] at g;omega
 rw [ag (by omega)] at hO;refine ⟨⟨by omega,by rw [lL];omega,by omega⟩,?_⟩;rw [hRR];refine ⟨⟨by rw [zA];omega,by rw [zA];omega⟩,?_⟩;rw [PV];generalize hz:((c.toNat:Nat):Int)=z;clear PV;have n5:∀ (y:Int) (k:Nat),y=(k:Nat)->z=y->c.toNat=k:=fun y k h1 h2=>by omega
 refine br ?_ ?_<;>intro g
 ·refine br (fun _=>?_) (fun g'=>absurd (g.symm.trans g') (by decide));have g:c.toNat=34:=n5 _ 34 rfl (of_decide_eq_true g);rw [ah (.inl g)] at hO;subst hO;refine ⟨[c],by rw [<- hz];rfl,?_⟩;exact ⟨_,ax,rfl⟩
 have g1:¬ c.toNat=34:=fun h=>of_decide_eq_false g (by omega);refine br ?_ ?_<;>intro g
 ·have g:c.toNat=92:=n5 _ 92 rfl (of_decide_eq_true g);rw [ah (.inr g)] at hO;subst hO;refine ⟨[c],by rw [<- hz];rfl,?_⟩;exact ⟨_,ax,rfl⟩
 have g2:¬ c.toNat=92:=fun h=>of_decide_eq_false g (by omega);rw [ag (by omega)] at hO;refine br ?_ ?_<;>intro g
 ·have g:c.toNat=116:=n5 _ 116 rfl (of_decide_eq_true g);rw [ah g] at hO;subst hO;exact ⟨_,ax,rfl⟩
 have g3:¬ c.toNat=116:=fun h=>of_decide_eq_false g (by omega);rw [ag g3] at hO;refine br ?_ ?_<;>intro g
 ·have g:c.toNat=110:=n5 _ 110 rfl (of_decide_eq_true g);rw [ah g] at hO;subst hO;exact ⟨_,ax,rfl⟩
 have g4:¬ c.toNat=110:=fun h=>of_decide_eq_false g (by omega);rw [ag g4] at hO;refine br ?_ ?_<;>intro g
 ·have g:c.toNat=114:=n5 _ 114 rfl (of_decide_eq_true g);rw [ah g] at hO;subst hO;exact ⟨_,ax,rfl⟩
 have g5:¬ c.toNat=114:=fun h=>of_decide_eq_false g (by omega);rw [ag g5] at hO;refine br ?_ ?_<;>intro g
 ·have g:c.toNat=120:=n5 _ 120 rfl (of_decide_eq_true g);rw [ah g] at hO;refine br ?_ ?_<;>intro g
  ·have g:R.size < 2:=by have:=of_decide_eq_true g;omega
   rw [ag (by rw [<- yi,bH];omega)] at hO;subst hO;exact ⟨_,ax,rfl⟩
  have g:¬ R.size < 2:=by have:=of_decide_eq_false g;omega
  refine ⟨⟨by omega,by omega,by omega⟩,?_⟩;have hRl:r.length=R.size:=by rw [<- yi,bH]
  have hRt:tx (R.extract (0:Int).toNat (2:Int).toNat)=r.take 2:=by rw [<- yi];exact J1 R 2
  have iM:=pS (R.extract (0:Int).toNat (2:Int).toNat) (by
   have:=congrArg List.length hRt;rw [bH,zLenT] at this
   omega)
  rw [hRt] at iM
  have Wz:jN (r.take 2)=true->jM (r.take 2) < 256:=fun h=>by
   have:=Kp (r.take 2) (by rw [jN,bg] at h;exact h.2);have e:(r.take 2).length=2:=by rw [zLenT];omega
   rw [e] at this;exact this
  have hnD:QV (r.take 2) = .bK [.v (.int .u32 (if jN (r.take 2)=true then jM (r.take 2) else 0:Nat)),.v (.bool (jN (r.take 2)))]:=rfl;rw [hnD] at iM;have j8:2<=r.length:=by omega
  generalize jN (r.take 2)=B at iM Wz hO;generalize jM (r.take 2)=N at iM Wz hO;generalize R.extract (0:Int).toNat (2:Int).toNat=X at iM
  cases B with
  | false=>
   rw [ag (fun h=>by simpa using h.2)] at hO;rw [ag (by simp)] at iM;subst hO;refine cP JT iM ?_;exact ⟨_,ax,rfl⟩
  | true=>
   rw [ah ⟨j8,rfl⟩] at hO;rw [ah rfl] at iM;subst hO;have hN:=Wz rfl;refine cP JT iM ?_;refine ⟨[UInt8.ofNat N],?_,?_⟩
   ·have e1:IntKind.u8.wrap ((N:Nat):Int)=((UInt8.ofNat N).toNat:Int):=b8 rfl hN;exact congrArg (fun z=>[DV.v (.int .u8 z)]) e1
   exact ⟨_,ax,rfl⟩
 have g6:¬ c.toNat=120:=fun h=>of_decide_eq_false g (by omega);rw [ag g6] at hO;refine br ?_ ?_<;>intro g
 ·have g:c.toNat=117:=n5 _ 117 rfl (of_decide_eq_true g);rw [ah g] at hO;have fD:r.length<=1099511627776:=by omega
  have v8:(scaP r).2<=r.length + 2:=by
   unfold scaP;split
   ·simp
   ·split
    ·rename_i h;simp only [List.length_cons];omega
    ·simp
  generalize scaP r=S at hO wh v8;obtain ⟨S1,S2⟩:=S;refine cP abF wh ?_;refine br ?_ ?_<;>intro g
  ·have g:S1=[]:=by
    have:=of_decide_eq_true g;have:=congrArg tx this
    rwa [nF] at this
   rw [ah g] at hO;subst hO;exact ⟨_,ax,rfl⟩
  ·have g:¬ S1=[]:=fun h=>of_decide_eq_false g (by rw [h]);rw [ag g] at hO;subst hO
   have hw:IntKind.i64.wrap (2 + ((S2:Nat):Int))=((2 + S2:Nat):Int):=by
    simp only at v8;rw [wrap64 (by omega) (by omega)];omega
   have hX:=congrArg (fun z=>DV.v (.int .i64 z)) hw;have hY:DV.v (.bool true) = .v (.bool (decide (2 + S2≠0))):=by rw [decide_eq_true (show 2 + S2≠0 by omega)]
   exact ⟨_,(by repeat' (first | exact rfl | exact trivial | exact Or.inr (Or.inl ⟨_,rfl⟩) | exact Or.inr ⟨_,rfl⟩ | exact Or.inl ⟨rfl,rfl⟩ | exact Or.inl rfl | refine Or.inr ⟨_,_,rfl,Nat.zero_le _,rfl,?_⟩ | refine ⟨_,_,rfl,?_,?_⟩ | refine ⟨_,rfl,?_⟩ | exact hX | exact hY | refine Or.inr (Or.inr (Or.inr ⟨_,_,rfl,?_⟩)) | exact Or.inl rfl | refine Or.inr ?_)),rfl⟩
 have g7:¬ c.toNat=117:=fun h=>of_decide_eq_false g (by omega);rw [ag g7] at hO;subst hO;exact ⟨_,ax,rfl⟩
abbrev QW (q:List UInt8):DV:=if okU q=false then .bK [.v (.int .i64 0),.v (.int .i64 2)] else if pD (recV (q.take (jK q)))=true then .bK [.v (.int .i64 0),.v (.int .i64 3)] else .bK [.v (.int .i64 (jK q:Nat)),.v (.int .i64 0)]
theorem yj (s:ByteArray) (hs:s.size<=1099511627776) (i:Nat) (c:UInt8) (r:List UInt8) (h:(tx s).drop i=c :: r):bA prog 337 [.v (.string s),.v (.int .i64 i)] (QW (c :: r)):=by
 have hu:=s6 s i hs c r h;have hP:QW (c :: r)=if okU (c :: r)=false then .bK [.v (.int .i64 0),.v (.int .i64 2)] else if pD (recV ((c :: r).take (jK (c :: r))))=true then .bK [.v (.int .i64 0),.v (.int .i64 3)] else .bK [.v (.int .i64 (jK (c :: r):Nat)),.v (.int .i64 0)]:=rfl
 have DB:jK (c :: r)=if okU (c :: r)=true then cq c.toNat else 1:=rfl
 rw [DB] at hP;generalize QW (c :: r)=P at hP ⊢;generalize okU (c :: r)=ok at hu hP;refine eG 23 [.tmp 4,.tmp 5] func337 rfl ntmps337 rfl fun _ _ _ _=>?_;refine eo OR rfl hu ax (fun q hq=>?_);obtain ⟨z,n,rfl,hn,hp⟩:=hq
 cases ok with
 | false=>
  rw [ah rfl] at hP;subst hP;exact ⟨_,ax,rfl⟩
 | true=>
  obtain ⟨rfl,rfl⟩:=hn rfl;rw [ag (by simp),ah rfl] at hP;have DB:=uF (recV ((c :: r).take (cq c.toNat)));generalize recV ((c :: r).take (cq c.toNat))=Z at hP DB;generalize cq c.toNat=N at hP;generalize pD Z=B at DB hP;refine cP VR DB ?_
  cases B with
  | true=>
   rw [ah rfl] at hP;subst hP;exact ⟨_,ax,rfl⟩
  | false=>
   rw [ag (by simp)] at hP;subst hP;exact ⟨_,ax,rfl⟩
theorem Uq (b:Nat) (p:Value) (w:World) (uv:w.heap[b]? = some (.cells #[p,.slice none 0 0] 113 (0,0))) :
  Calls prog 60 #[.pointer (some ⟨b,0,none⟩)] w fun e w'=>e = .returned (.string ⟨#[]⟩)/\w'=w.drew:=by
 have c1:w.drew.cell? ⟨b,1,none⟩=some (.slice none 0 0):=by
  have:w.drew.heap[b]? = some (.cells #[p,.slice none 0 0] 113 (0,0)):=uv;rw [Lib.cell_of_heap this];all_goals rfl
 have hSD:(Builtin.unsafeSliceData_ #[111] 199 #[.slice none 0 0]).run prog w.drew = .ok (.pointer none) w.drew:=
  Lib.run_unsafeSliceData_nil _ _ _ _ _
 have hUS:(Builtin.unsafeString_ #[199,3] 9 #[.pointer none,.int .i64 0]).run prog w.drew = .ok (.string ⟨#[]⟩) w.drew:=
  Lib.run_unsafeString_none w.drew 199 3 9 none
 have mixed:=mo
 go_enter func60,ntmps60
 go_wp2
 go_region_o
 all_goals (go_wp2;go_ret;exact ⟨rfl,rfl⟩)
end Go.Proofs.YtfdedoiiahbnnaaGreat
set_option maxRecDepth 100000
namespace Go.Proofs.YtfdedoiiahbnnaaGreat
open Go Go.RowKit Go.Lib Dv Go.Proofs.Tryz
theorem Iy {X:Ctx} {E:En} {st:St} {a:Act} {w:World} (h:Rel X E st a w) (bp:X.still=false) {g n:Nat} (hb:g ∉ E.β) (ht:∀ y∈E.τ,y.ownBlock≠some g) (B6:X.w0.heap.size<=g∨X.E0.S g):Rel X E st a (w.drew.freeze ⟨g,0,none⟩ n):=by
 obtain ⟨k1,k2,k3,k4⟩:=ry (w:=w.drew) (g:=g) (n:=n);have hh:∀ j,j≠g->(w.drew.freeze ⟨g,0,none⟩ n).heap[j]? = w.heap[j]?:=fun j hj=>ru hj
 exact {
  env:={
   len:=h.env.len
   tl:=h.env.tl
   dY:=fun i cs hi=>by
    obtain ⟨b,ty,arr,h1,h2,h3⟩:=h.env.dY i cs hi;exact ⟨b,ty,arr,h1,by rw [hh b (fun e=>hb (e ▸ mG h1))];exact h2,h3⟩
   inj:=h.env.inj
   sub:=fun x v hx=>by rw [uw];exact h.env.sub x v hx
   pc:=h.env.pc
   c9:=fun k q y hq hy=>by
    rcases h.env.c9 k q y hq hy with h1 | ⟨g',cap,cur,rfl,h1,h2,h3,h4,h5,h6⟩
    ·exact .inl h1
    ·refine .inr ⟨g',cap,cur,rfl,?_,h2,h3,h4,h5,h6⟩;rw [hh g' (fun e=>ht _ (mG hy) (by rw [e];rfl))];exact h1
   iB:=h.env.iB }
  tk:=h.tk
  sz:=h.sz
  tm:=h.tm
  df:=h.df
  nw:=h.nw
  fr:=h.fr.cu k1 k2 k3 (by rw [k4];exact bn _) fun j hj=>by
   by_cases hjg:j=g
   ·left;subst hjg;rcases B6 with h0 | h0
    ·exact .inr h0
    ·exact .inl h0
   ·right;exact hh j hjg
  sh:=mJ bp
  bt:=fun p hp b SB=>by
   obtain ⟨cs,cx⟩:=h.bt p hp b SB
   exact ⟨cs,by rw [hh b (fun e=>hb (e ▸ mG SB))];exact cx⟩ }
theorem QX {X:Ctx} {st:St} {k:List It} (st':St) (hP:X.P=prog) {i kt d:Nat} {p:DV} {l:List UInt8} (hbt:(i,113)∈X.bt) (kN:st.bx[i]? = some [p,.sl 1 (bD l) (some kt)])
  (hl:l ≠ []) (gj:st.tk[kt]? = some ⟨l.length,5,1,none⟩) (tX:X.n0<=i) (pu:X.m0<=kt) (si:st'.tk=st.tk.take kt) (hwb:WeLL i kt (st.tk.take kt) (st.bx.take i) st'.bx) (LN:lO i kt (st.tk.take kt) st.sl st'.sl)
  (hd:eV X.nt st'.sl (some d)=true)
  (hk:go X 4000 k ⟨(d,⟨[],.v (.string ⟨l.toArray⟩)⟩) :: st'.sl,st'.bx,st'.tk⟩) (bp:X.still=false:=by exact rfl):CallG X 60 [.loc i 0] (some d) k st:=by
 refine ⟨?_,bp,fun E a w vs h hv=>?_⟩
 ·rw [hP];exact XQ
 rw [hP];simp only [RvL] at hv;obtain ⟨v1,vr,rfl,h1,rfl⟩:=hv;unfold Rv at h1;obtain ⟨b,hb,rfl⟩:=h1;obtain ⟨b',ty,arr,ef,hw,pJ⟩:=h.env.dY i _ kN;rw [hb] at ef;simp only [oI] at ef;subst ef;obtain ⟨Th,qu⟩:=h.bt _ hbt b hb;rw [hw] at qu;simp only [oI,Obj.cells.injEq] at qu;have Lm:ty=113:=qu.2.1;subst Lm;obtain ⟨hr,ho⟩:=pJ;simp only [RvL] at hr;obtain ⟨pv,r1,rfl,ZX,cv,r2,rfl,NU,rfl⟩:=hr;obtain ⟨g,cap,cur,rfl,hg,zj,hcm,cx,htake,ZC,hτ⟩:=HP h hl gj NU;refine (PE b g cap pv l cur w hl hw hg zj hcm cx htake).mono ?_;rintro e w' ⟨rfl,rfl⟩;have ZO:=(gS kN).1;have D6:=(gS gj).1;have e1:(st.bx.take i).length=i:=by rw [zLenT];omega
 have e2:(st.tk.take kt).length=kt:=by rw [zLenT];omega
 have hr:=sG (st':=st') h (kept:=st.tk.take kt) (dropped:=st.tk.drop kt) (new:=[]) (b0:=st.bx.take i) (r:=st.bx.drop i) ⟨by omega,by omega,by simp,by simpa using si,by simp,by simp,by rw [e1,e2,si];exact hwb,by rw [e1,e2,si];exact LN⟩;rw [e1] at hr;have B6:X.w0.heap.size<=g:=h.nw.tn kt _ g (by rw [X.pu];exact pu) hτ rfl
 have hf:=Iy (g:=g) (n:=l.length) hr bp (fun hm=>ZC (List.mem_of_mem_take hm)) (fun y hy=>by
  simp only [En.wk,List.length_nil,List.replicate_zero,List.append_nil] at hy;obtain ⟨j,hj⟩:=List.mem_iff_getElem?.1 hy;rw [cQ] at hj;split at hj
  ·rename_i aE;exact fun hc=>h.env.iB j kt y _ g (by omega) hj hτ hc rfl
  ·cases hj) (.inl B6)
 exact go_sound 4000 _ _ hk _ _ _ (bh hf hd (.v (.string ⟨l.toArray⟩)) _ (by unfold Rv;exact ⟨rfl,rfl⟩))
theorem ML {X:Ctx} {st:St} {k:List It} (hP:X.P=prog) {i d:Nat} {p:DV} (hbt:(i,113)∈X.bt) (kN:st.bx[i]? = some [p,.v (.slice none 0 0)])
  (hd:eV X.nt st.sl (some d)=true)
  (hk:go X 4000 k ⟨(d,⟨[],.v (.string ⟨#[]⟩)⟩) :: st.sl,st.bx,st.tk⟩) (bp:X.still=false:=by exact rfl):CallG X 60 [.loc i 0] (some d) k st:=by
 refine ⟨?_,bp,fun E a w vs h hv=>?_⟩
 ·rw [hP];exact XQ
 rw [hP];simp only [RvL] at hv;obtain ⟨v1,vr,rfl,h1,rfl⟩:=hv;unfold Rv at h1;obtain ⟨b,hb,rfl⟩:=h1;obtain ⟨b',ty,arr,ef,hw,pJ⟩:=h.env.dY i _ kN;rw [hb] at ef;simp only [oI] at ef;subst ef;obtain ⟨Th,qu⟩:=h.bt _ hbt b hb;rw [hw] at qu;simp only [oI,Obj.cells.injEq] at qu;have Lm:ty=113:=qu.2.1;subst Lm;obtain ⟨hr,ho⟩:=pJ;simp only [RvL] at hr;obtain ⟨pv,r1,rfl,ZX,cv,r2,rfl,NU,rfl⟩:=hr;unfold Rv at NU;obtain ⟨rfl,_⟩:=NU;refine (Uq b pv w hw).mono ?_;rintro e w' ⟨rfl,rfl⟩;have cm:Rel X E st a w.drew:=dr h (Ext.refl E) (h.env.gW fun j _=>rfl) h.tk h.nw (h.fr.cu rfl rfl rfl (bn _) fun j hj=>Or.inr rfl) (mJ bp) (h.bt.gW fun b hb=>rfl);exact go_sound 4000 _ _ hk _ _ _ (bh cm hd (.v (.string ⟨#[]⟩)) _ (by unfold Rv;exact ⟨rfl,rfl⟩))
end Go.Proofs.YtfdedoiiahbnnaaGreat
set_option maxRecDepth 100000
namespace Go.Proofs.YtfdedoiiahbnnaaGreat
open Go Go.RowKit Dv Go.Proofs.Tryz
abbrev NX:List DV:=[.v (.int .i64 0),.v (.int .i64 0)]
structure dD where
 k:Int
 a:Int
 e:Int
 s:ByteArray
 n:Int
def vn (t:dD):List DV:=[.v (.int .i64 t.k),.v (.int .i64 t.a),.v (.int .i64 t.e),.v (.string t.s),.v (.int .i64 t.n)]
def gp (l:List dD):List (List DV):=l.map vn
theorem dK (l:List dD):(gp l).length=l.length:=List.length_map ..
theorem MM {l:List dD} {i:Nat} {t:dD} (h:l[i]? = some t):(gp l)[i]? = some (vn t):=by rw [gp,List.getElem?_map,h];all_goals rfl
theorem iO (l:List dD) (t:dD):gp l ++ [vn t]=gp (l ++ [t]):=by simp [gp]
def gR (a:Int):dD:=⟨0,a,a,aZ,0⟩
structure au where
 l:List dD
 p:Nat
 d:Nat
 f:Ft
def aH (c:au):List DV:=[.sl 5 (gp c.l) none,.v (.int .i64 c.p),.v (.int .i64 c.d),.v (.int .i64 c.f.1),.v (.int .i64 c.f.2)]
def au.aF (c:au):dD:=if c.f.1=0 then c.l[c.p]?.getD (gR 0) else gR c.f.2
def au.step (c:au):au:=if c.aF.k=0 then c else { c with p:=c.p + 1 }
def au.is (c:au) (k:Int) (s:ByteArray):Bool:=decide (c.aF.k=k) && decide (c.aF.s=s)
def au.o9 (c:au) (k:Int) (s:ByteArray):au:=if c.is k s then c.step else c
def au.tk (c:au) (k:Int):Bool:=!decide (c.aF.k=0) && decide (c.aF.k=k)
def au.uG (c:au) (k:Int):dD:=if c.tk k then c.aF else ⟨0,0,0,aZ,0⟩
def au.SE (c:au) (k:Int):au:=if c.tk k then c.step else c
def au.cK (c:au) (e a:Int):au:=if c.f.1=0/\e≠0 then { c with f:=(e,a) } else c
def au.fail (c:au) (e:Int):au:=c.cK e c.aF.a
def au.wrong (c:au):au:=c.fail (if c.aF.k=0 then 5 else 4)
def au.ai (c:au) (s:ByteArray):au:=if c.is 4 s then c.step else c.wrong
def au.enter (c:au):Bool:=!decide (c.d=24)
def au.qC (c:au):au:=if c.d=24 then c.fail 6 else { c with d:=c.d + 1 }
def au.leave (c:au):au:={ c with d:=c.d - 1 }
structure av (c:au):Prop where
 lt:c.p < c.l.length
 nx:∀ (i:Nat) t,c.l[i]? = some t->t.k≠0->i + 1 < c.l.length
 len:c.l.length<=274877906944
 dl:c.d<=24
theorem av.aF {c:au} (h:av c) (h0:c.f.1=0):∃ t,c.l[c.p]? = some t/\c.aF=t:=by
 refine ⟨_,gE h.lt,?_⟩;rw [au.aF,ah h0,gE h.lt];rfl
theorem av.step {c:au} (h:av c):av c.step:=by
 unfold au.step;split
 ·exact h
 ·rename_i hk;refine ⟨?_,h.nx,h.len,h.dl⟩;by_cases h0:c.f.1=0
  ·obtain ⟨t,h1,h2⟩:=h.aF h0;rw [h2] at hk;exact h.nx _ t h1 hk
  ·exfalso;rw [au.aF,ag h0] at hk;exact hk rfl
theorem av.cK {c:au} (h:av c) (e a:Int):av (c.cK e a):=by
 unfold au.cK;split
 ·exact ⟨h.lt,h.nx,h.len,h.dl⟩
 ·exact h
theorem av.wrong {c:au} (h:av c):av c.wrong:=h.cK _ _
theorem av.ai {c:au} (h:av c) (s:ByteArray):av (c.ai s):=by
 unfold au.ai;split
 ·exact h.step
 ·exact h.wrong
theorem av.leave {c:au} (h:av c):av c.leave:=by
 have:=h.dl;exact ⟨h.lt,h.nx,h.len,by show c.d - 1<=24;omega⟩
def unqU:Nat->List UInt8->Nat->List UInt8->List UInt8 × Nat × Ft
 | 0,_,a,_=>([],0,(5,(a:Int)))
 | _ + 1,[],a,_=>([],0,(5,(a:Int)))
 | k + 1,c :: r,a,out=>
  if c.toNat=34 then (out,a + 1,(0,0))
  else if c.toNat=92 then (if (oneE (c :: r)).2=0 then ([],0,(16,(a:Int))) else unqU k ((c :: r).drop (oneE (c :: r)).2) (a + (oneE (c :: r)).2) (out ++ (oneE (c :: r)).1))
  else if okU (c :: r)=false then ([],0,(2,(a:Int))) else if pD (recV ((c :: r).take (jK (c :: r))))=true then ([],0,(3,(a:Int)))
  else unqU k ((c :: r).drop (jK (c :: r))) (a + jK (c :: r)) (out ++ (c :: r).take (jK (c :: r)))
def nN (q:List UInt8) (i:Nat):List UInt8 × Nat × Ft:=unqU (q.drop (i + 1)).length (q.drop (i + 1)) (i + 1) []
theorem QY (n:Nat):1<=(L6 n).length/\(L6 n).length<=4:=by grind [L6]
theorem QZ (z:Int):(EY z).length<=4:=by grind [QY,EY]
theorem rU (q:List UInt8) (h:(oneE q).2≠0):2<=(oneE q).2/\(oneE q).2<=q.length/\(oneE q).1 ≠ []/\(oneE q).1.length<=(oneE q).2:=by
 match q,h with
 | [],h=>exact absurd rfl h
 | [_],h=>exact absurd rfl h
 | b :: c :: r,h=>
  unfold oneE at h ⊢;simp only at h ⊢;by_cases h0:b.toNat≠92
  ·rw [ah h0] at h;exact absurd rfl h
  rw [ag h0] at h ⊢;by_cases h1:c.toNat=34∨c.toNat=92
  ·rw [ah h1];simp
  rw [ag h1] at h ⊢;by_cases h2:c.toNat=116
  ·rw [ah h2];simp
  rw [ag h2] at h ⊢;by_cases h3:c.toNat=110
  ·rw [ah h3];simp
  rw [ag h3] at h ⊢;by_cases h4:c.toNat=114
  ·rw [ah h4];simp
  rw [ag h4] at h ⊢;by_cases h5:c.toNat=120
  ·grind
  rw [ag h5] at h ⊢;by_cases h6:c.toNat=117
  ·rw [ah h6] at h ⊢;by_cases h7:(scaP r).1=[]
   ·rw [ah h7] at h;exact absurd rfl h
   ·rw [ag h7] at h ⊢
    have key:(scaP r).1.length<=2 + (scaP r).2/\(scaP r).2<=r.length:=by
     unfold scaP at h7 ⊢
     grind [QZ,jM,jN]
    grind
  ·rw [ag h6] at h;exact absurd rfl h
theorem pa:∀ (n:Nat) (l:List UInt8) (a:Nat) (out:List UInt8),l.length<=n->unqU n l a out=unqU l.length l a out
 | 0,l,a,out,h=>by grind
 | n + 1,[],a,out,h=>rfl
 | n + 1,c :: r,a,out,h=>by
  have ih:=pa n;rw [List.length_cons] at h;have hu:=kU (l:=c :: r) (by simp);have ho:=rU (c :: r);rw [List.length_cons] at hu ho ⊢;have ih2:=pa r.length
  grind [unqU]
termination_by n=>n
abbrev MN (l:List UInt8) (a:Nat) (out:List UInt8):=unqU l.length l a out
theorem Ba (c:UInt8) (r:List UInt8) (a:Nat) (out:List UInt8):MN (c :: r) a out =
  if c.toNat=34 then (out,a + 1,(0,0))
  else if c.toNat=92 then (if (oneE (c :: r)).2=0 then ([],0,(16,(a:Int))) else MN ((c :: r).drop (oneE (c :: r)).2) (a + (oneE (c :: r)).2) (out ++ (oneE (c :: r)).1))
  else if okU (c :: r)=false then ([],0,(2,(a:Int))) else if pD (recV ((c :: r).take (jK (c :: r))))=true then ([],0,(3,(a:Int)))
  else MN ((c :: r).drop (jK (c :: r))) (a + jK (c :: r)) (out ++ (c :: r).take (jK (c :: r))):=by
 have hu:=kU (l:=c :: r) (by simp);have ho:=rU (c :: r);rw [List.length_cons] at hu ho;show unqU (r.length + 1) (c :: r) a out=_;rw [unqU];split
 ·rfl
 split
 ·grind [pa]
 split
 ·rfl
 split
 ·rfl
 ·grind [pa]
theorem FQ (a:Nat) (out:List UInt8):MN [] a out=([],0,(5,(a:Int))):=rfl
abbrev unqD (p:List UInt8 × Nat × Ft):DV:=.bK [.v (.string (ba p.1)),.v (.int .i64 p.2.1),Ft.d p.2.2]
abbrev WB (s:ByteArray) (e:Nat):St:=⟨[(0,⟨[],.v (.string s)⟩),aJ 1 e,bq 6 0,bq 7 1],[NX,[.v (.pointer none),.v (.slice none 0 0)]],[]⟩
abbrev ac8 (s:ByteArray) (e:Nat) (l:List UInt8):St:=⟨[(0,⟨[],.v (.string s)⟩),aJ 1 e,bq 6 0,bq 7 1],[NX,[.loc 1 0,.sl 1 (bD l) (some 0)]],[⟨l.length,5,1,none⟩]⟩
set_option maxHeartbeats 2000000 in
theorem CS (s:ByteArray) (hs:s.size<=1099511627776) (i:Nat) (hi:i < s.size) (hq:aA s i=34):bA prog 292 [.v (.string s),.v (.int .i64 i)] (unqD (nN (tx s) i)):=by
 have nE:=bH s;have hR:nN (tx s) i=MN ((tx s).drop (i + 1)) (i + 1) []:=rfl;generalize nN (tx s) i=R at hR ⊢;have zA:IntKind.i64.wrap ((i:Int) + 1)=((i + 1:Nat):Int):=cR hi (by omega);refine Ce (s:=false) (bt:=[(1,113)]) (hbt:=fun p hp=>Nat.zero_le _) (P:=prog) tt ui 5000 94 [.tmp 4,.tmp 5,.cell 6 26] func292 rfl ntmps292 rfl (nL rfl) (fun _ _ _ _=>?_);refine br (fun g=>?_) (fun _=>?_)
 ·exfalso;simp [aD] at g;omega
 refine br (fun g=>?_) (fun _=>?_)
 ·exfalso;have:=of_decide_eq_true g;omega
 refine ⟨⟨by omega,by omega⟩,?_⟩;refine br (fun g=>?_) (fun _=>?_)
 ·grind
 refine cH (fun j st=>∃ (e:Nat) (l:List UInt8),((l=[]/\st=WB s e)∨(l ≠ []/\st=ac8 s e l))/\R=MN ((tx s).drop e) e l/\e<=s.size/\l.length<=e/\j=s.size - e) (s.size - (i + 1)) (WB s (i + 1)) (dg (gv zA)) ⟨i + 1,[],.inl ⟨rfl,rfl⟩,hR,by omega,by simp,by omega⟩ ?_;rintro _ st ⟨e,l,ac9,gq,he,jk,rfl⟩;rcases ac9 with ⟨zm,rfl⟩ | ⟨py,rfl⟩
 ·refine br ?_ ?_<;>intro hL
  rotate_left
  ·have hge:e=s.size:=by have:=of_decide_eq_false hL;omega
   rw [List.drop_eq_nil_of_le (by omega),FQ] at gq;subst gq;exact ⟨_,ax,rfl⟩
  have aE:e < s.size:=by have:=of_decide_eq_true hL;omega
  obtain ⟨c,fx,hb⟩:=bJ aE;have fx:(tx s).drop e=c :: (tx s).drop (e + 1):=fx;have jo:=FP s hs e aE;have kE:=yj s hs e c _ fx;have DB:=kU (l:=(tx s).drop e) (by rw [fx];simp);have Ur:=rU ((tx s).drop e);rw [List.length_drop,nE] at DB Ur;have Us:(tx s).drop (e + jK ((tx s).drop e))=((tx s).drop e).drop (jK ((tx s).drop e)):=by rw [List.drop_drop]
  have qZ:(tx s).drop (e + (oneE ((tx s).drop e)).2)=((tx s).drop e).drop (oneE ((tx s).drop e)).2:=by rw [List.drop_drop]
  have hut:tx (s.extract e (e + jK ((tx s).drop e)))=((tx s).drop e).take (jK ((tx s).drop e)):=by
   simp [tx,List.drop_take]
  rw [fx,Ba] at gq;rw [fx] at jo DB Ur Us qZ hut;have hun2:jK (c :: (tx s).drop (e + 1))=jK (c :: (tx s).drop (e + 1)):=rfl;have hP:QW (c :: (tx s).drop (e + 1))=if okU (c :: (tx s).drop (e + 1))=false then .bK [.v (.int .i64 0),.v (.int .i64 2)] else if pD (recV ((c :: (tx s).drop (e + 1)).take (jK (c :: (tx s).drop (e + 1)))))=true then .bK [.v (.int .i64 0),.v (.int .i64 3)] else .bK [.v (.int .i64 (jK (c :: (tx s).drop (e + 1)):Nat)),.v (.int .i64 0)]:=rfl
  rw [hP] at kE;generalize (tx s).drop (e + 1)=r at *;generalize okU (c :: r)=ok at kE gq;generalize pD (recV ((c :: r).take (jK (c :: r))))=bz at kE gq;generalize jK (c :: r)=N at *;generalize oneE (c :: r)=O at *;obtain ⟨W,n⟩:=O;simp only at Ur qZ gq;generalize hz:((c.toNat:Nat):Int)=z at *;have nV:((aA s (e:Int).toNat:Nat):Int)=z:=by rw [lD,hb,hz]
  refine ⟨⟨by omega,by omega⟩,?_⟩;rw [nV];refine br ?_ ?_<;>intro g
  ·have g:c.toNat=34:=by have:=of_decide_eq_true g;omega
   rw [ah g] at gq;subst gq zm;have hw:=congrArg (fun z=>DV.v (.int .i64 z)) (cR aE (by omega));refine ML rfl (.head _) rfl rfl ?_;exact ⟨_,(by repeat' (first | exact rfl | exact trivial | exact Or.inr (Or.inl ⟨_,rfl⟩) | exact Or.inr ⟨_,rfl⟩ | exact Or.inl ⟨rfl,rfl⟩ | exact Or.inl rfl | refine Or.inr ⟨_,_,rfl,Nat.zero_le _,rfl,?_⟩ | refine ⟨_,_,rfl,?_,?_⟩ | refine ⟨_,rfl,?_⟩ | exact hw | refine Or.inr (Or.inr (Or.inr ⟨_,_,rfl,?_⟩)) | exact Or.inl rfl | refine Or.inr ?_)),rfl⟩
  have g34:¬ c.toNat=34:=fun h=>of_decide_eq_false g (by omega);rw [ag g34] at gq;refine ⟨⟨by omega,by omega⟩,?_⟩;rw [nV];refine br ?_ ?_<;>intro g
  ·have g:c.toNat=92:=by have:=of_decide_eq_true g;omega
   rw [ah g] at gq;by_cases hn:n=0
   ·subst hn;rw [ah rfl] at gq;subst gq;have jo:bA prog 336 [.v (.string s),.v (.int .i64 e)] (.bK [.v (.string (ba W)),.v (.int .i64 0),.v (.bool false)]):=jo;refine cP JR jo ?_;exact ⟨_,ax,rfl⟩
   ·rw [ag hn,<- qZ] at gq;obtain ⟨p1,p2,p3,p4⟩:=Ur hn;have jo:bA prog 336 [.v (.string s),.v (.int .i64 e)] (.bK [.v (.string (ba W)),.v (.int .i64 n),.v (.bool true)]):=by grind
    have hW:0 < (ba W).size:=by rw [aS];exact List.length_pos_iff.2 p3
    have hw:IntKind.i64.wrap ((e:Int) + (n:Nat))=((e + n:Nat):Int):=by rw [wrap64 (by omega) (by omega)];omega
    have hlen:(l ++ W).length<=140737488355328:=by rw [List.length_append];omega
    have bo:l ++ W ≠ []:=by simp [p3]
    have Iz:(l ++ W).length<=e + n:=by rw [List.length_append];omega
    refine cP JR jo ?_;refine ja rfl (l ++ W) (l:=l) (kt:=0) (by simp) (.head _) rfl (.inl rfl) (.inl ⟨rfl,zm,rfl,rfl⟩) hW hlen rfl ?_;exact rE ⟨_,by omega,e + n,l ++ W,.inr ⟨bo,rfl⟩,gq,by omega,Iz,rfl⟩ (dg (gv hw))
  have g92:¬ c.toNat=92:=fun h=>of_decide_eq_false g (by omega);rw [ag g92] at gq
  cases ok with
  | false=>
   rw [ah rfl] at gq kE;subst gq;refine cP Ad kE ?_;exact ⟨_,ax,rfl⟩
  | true=>
   rw [ag (by simp)] at gq kE
   cases bz with
   | true=>
    rw [ah rfl] at gq kE;subst gq;refine cP Ad kE ?_;exact ⟨_,ax,rfl⟩
   | false=>
    rw [ag (by simp)] at gq kE;rw [<- Us] at gq;have hw:IntKind.i64.wrap ((e:Int) + (N:Nat))=((e + N:Nat):Int):=by rw [wrap64 (by omega) (by omega)];omega
    have Qu:(IntKind.i64.wrap ((e:Int) + (N:Nat))).toNat=e + N:=by omega
    have fD:((c :: r).take N).length=N:=by grind
    generalize (c :: r).take N=W at *;have hext:s.extract e (e + N)=ba W:=cW hut;have hW:0 < (ba W).size:=by rw [aS];omega
    have hWn:W ≠ []:=fun h=>by rw [h] at fD;simp at fD;omega
    have hlen:(l ++ W).length<=140737488355328:=by rw [List.length_append];omega
    have bo:l ++ W ≠ []:=by simp [hWn]
    have Iz:(l ++ W).length<=e + N:=by rw [List.length_append];omega
    refine cP Ad kE ?_;refine ⟨⟨by omega,by omega,by omega⟩,?_⟩;rw [Qu,lD,hext];refine ja rfl (l ++ W) (l:=l) (kt:=0) (by simp) (.head _) rfl (.inl rfl) (.inl ⟨rfl,zm,rfl,rfl⟩) hW hlen rfl ?_;exact rE ⟨_,by omega,e + N,l ++ W,.inr ⟨bo,rfl⟩,gq,by omega,Iz,rfl⟩ (dg (gv hw))
 ·refine br ?_ ?_<;>intro hL
  rotate_left
  ·have hge:e=s.size:=by have:=of_decide_eq_false hL;omega
   rw [List.drop_eq_nil_of_le (by omega),FQ] at gq;subst gq;exact ⟨_,ax,rfl⟩
  have aE:e < s.size:=by have:=of_decide_eq_true hL;omega
  obtain ⟨c,fx,hb⟩:=bJ aE;have fx:(tx s).drop e=c :: (tx s).drop (e + 1):=fx;have jo:=FP s hs e aE;have kE:=yj s hs e c _ fx;have DB:=kU (l:=(tx s).drop e) (by rw [fx];simp);have Ur:=rU ((tx s).drop e);rw [List.length_drop,nE] at DB Ur;have Us:(tx s).drop (e + jK ((tx s).drop e))=((tx s).drop e).drop (jK ((tx s).drop e)):=by rw [List.drop_drop]
  have qZ:(tx s).drop (e + (oneE ((tx s).drop e)).2)=((tx s).drop e).drop (oneE ((tx s).drop e)).2:=by rw [List.drop_drop]
  have hut:tx (s.extract e (e + jK ((tx s).drop e)))=((tx s).drop e).take (jK ((tx s).drop e)):=by
   simp [tx,List.drop_take]
  rw [fx,Ba] at gq;rw [fx] at jo DB Ur Us qZ hut;have hun2:jK (c :: (tx s).drop (e + 1))=jK (c :: (tx s).drop (e + 1)):=rfl;have hP:QW (c :: (tx s).drop (e + 1))=if okU (c :: (tx s).drop (e + 1))=false then .bK [.v (.int .i64 0),.v (.int .i64 2)] else if pD (recV ((c :: (tx s).drop (e + 1)).take (jK (c :: (tx s).drop (e + 1)))))=true then .bK [.v (.int .i64 0),.v (.int .i64 3)] else .bK [.v (.int .i64 (jK (c :: (tx s).drop (e + 1)):Nat)),.v (.int .i64 0)]:=rfl
  rw [hP] at kE;generalize (tx s).drop (e + 1)=r at *;generalize okU (c :: r)=ok at kE gq;generalize pD (recV ((c :: r).take (jK (c :: r))))=bz at kE gq;generalize jK (c :: r)=N at *;generalize oneE (c :: r)=O at *;obtain ⟨W,n⟩:=O;simp only at Ur qZ gq;generalize hz:((c.toNat:Nat):Int)=z at *;have nV:((aA s (e:Int).toNat:Nat):Int)=z:=by rw [lD,hb,hz]
  refine ⟨⟨by omega,by omega⟩,?_⟩;rw [nV];refine br ?_ ?_<;>intro g
  ·have g:c.toNat=34:=by have:=of_decide_eq_true g;omega
   rw [ah g] at gq;subst gq;have hw:=congrArg (fun z=>DV.v (.int .i64 z)) (cR aE (by omega));refine QX ⟨[aJ 1 e,bq 6 0],[NX],[]⟩ rfl (kt:=0) (.head _) rfl py rfl (Nat.zero_le _) (Nat.zero_le _) rfl ⟨_,_,rfl,⟨_,_,rfl,az rfl,_,_,rfl,az rfl,rfl⟩,rfl⟩ ⟨⟨_,rfl,az rfl⟩,⟨_,rfl,az rfl⟩,trivial⟩ rfl ?_;exact ⟨_,(by repeat' (first | exact rfl | exact trivial | exact Or.inr (Or.inl ⟨_,rfl⟩) | exact Or.inr ⟨_,rfl⟩ | exact Or.inl ⟨rfl,rfl⟩ | exact Or.inl rfl | refine Or.inr ⟨_,_,rfl,Nat.zero_le _,rfl,?_⟩ | refine ⟨_,_,rfl,?_,?_⟩ | refine ⟨_,rfl,?_⟩ | exact hw | refine Or.inr (Or.inr (Or.inr ⟨_,_,rfl,?_⟩)) | exact Or.inl rfl | refine Or.inr ?_)),rfl⟩
  have g34:¬ c.toNat=34:=fun h=>of_decide_eq_false g (by omega);rw [ag g34] at gq;refine ⟨⟨by omega,by omega⟩,?_⟩;rw [nV];refine br ?_ ?_<;>intro g
  ·have g:c.toNat=92:=by have:=of_decide_eq_true g;omega
   rw [ah g] at gq;by_cases hn:n=0
   ·subst hn;rw [ah rfl] at gq;subst gq;have jo:bA prog 336 [.v (.string s),.v (.int .i64 e)] (.bK [.v (.string (ba W)),.v (.int .i64 0),.v (.bool false)]):=jo;refine cP JR jo ?_;exact ⟨_,ax,rfl⟩
   ·rw [ag hn,<- qZ] at gq;obtain ⟨p1,p2,p3,p4⟩:=Ur hn;have jo:bA prog 336 [.v (.string s),.v (.int .i64 e)] (.bK [.v (.string (ba W)),.v (.int .i64 n),.v (.bool true)]):=by grind
    have hW:0 < (ba W).size:=by rw [aS];exact List.length_pos_iff.2 p3
    have hw:IntKind.i64.wrap ((e:Int) + (n:Nat))=((e + n:Nat):Int):=by rw [wrap64 (by omega) (by omega)];omega
    have hlen:(l ++ W).length<=140737488355328:=by rw [List.length_append];omega
    have bo:l ++ W ≠ []:=by simp [p3]
    have Iz:(l ++ W).length<=e + n:=by rw [List.length_append];omega
    refine cP JR jo ?_;refine ja rfl (l ++ W) (l:=l) (kt:=0) (by simp) (.head _) rfl (.inr rfl) (.inr ⟨rfl,py,rfl,rfl⟩) hW hlen rfl ?_;exact rE ⟨_,by omega,e + n,l ++ W,.inr ⟨bo,rfl⟩,gq,by omega,Iz,rfl⟩ (dg (gv hw))
  have g92:¬ c.toNat=92:=fun h=>of_decide_eq_false g (by omega);rw [ag g92] at gq
  cases ok with
  | false=>
   rw [ah rfl] at gq kE;subst gq;refine cP Ad kE ?_;exact ⟨_,ax,rfl⟩
  | true=>
   rw [ag (by simp)] at gq kE
   cases bz with
   | true=>
    rw [ah rfl] at gq kE;subst gq;refine cP Ad kE ?_;exact ⟨_,ax,rfl⟩
   | false=>
    rw [ag (by simp)] at gq kE;rw [<- Us] at gq;have hw:IntKind.i64.wrap ((e:Int) + (N:Nat))=((e + N:Nat):Int):=by rw [wrap64 (by omega) (by omega)];omega
    have Qu:(IntKind.i64.wrap ((e:Int) + (N:Nat))).toNat=e + N:=by omega
    have fD:((c :: r).take N).length=N:=by grind
    generalize (c :: r).take N=W at *;have hext:s.extract e (e + N)=ba W:=cW hut;have hW:0 < (ba W).size:=by rw [aS];omega
    have hWn:W ≠ []:=fun h=>by rw [h] at fD;simp at fD;omega
    have hlen:(l ++ W).length<=140737488355328:=by rw [List.length_append];omega
    have bo:l ++ W ≠ []:=by simp [hWn]
    have Iz:(l ++ W).length<=e + N:=by rw [List.length_append];omega
    refine cP Ad kE ?_;refine ⟨⟨by omega,by omega,by omega⟩,?_⟩;rw [Qu,lD,hext];refine ja rfl (l ++ W) (l:=l) (kt:=0) (by simp) (.head _) rfl (.inr rfl) (.inr ⟨rfl,py,rfl,rfl⟩) hW hlen rfl ?_;exact rE ⟨_,by omega,e + N,l ++ W,.inr ⟨bo,rfl⟩,gq,by omega,Iz,rfl⟩ (dg (gv hw))
def gN (c:UInt8):Bool:=decide (48<=c.toNat) && decide (c.toNat<=57)
def digN:List UInt8->Nat
 | []=>0
 | c :: r=>if gN c=true then digN r + 1 else 0
def gd (l:List UInt8):Nat:=l.foldl (fun n c=>n * 10 + (c.toNat - 48)) 0
theorem rV:∀ l,digN l<=l.length
 | []=>bn _
 | c :: r=>by
  have:=rV r;rw [digN,List.length_cons];split<;>omega
theorem rW:∀ (l:List UInt8) (c:UInt8),c∈l.take (digN l)->gN c=true
 | [],c,h=>by cases h
 | b :: r,c,h=>by
  rw [digN] at h;by_cases g:gN b=true
  ·rw [ah g,List.take_succ_cons,List.mem_cons] at h;rcases h with rfl | h
   ·exact g
   ·exact rW r c h
  ·rw [ag g] at h;cases h
theorem Bb (l:List UInt8) (c:UInt8):gd (l ++ [c])=gd l * 10 + (c.toNat - 48):=by simp [gd]
theorem yk (f:Nat->UInt8->Nat) (hf:∀ n c,n<=f n c):∀ (l:List UInt8) (n:Nat),n<=l.foldl f n
 | [],n=>bn _
 | c :: r,n=>Nat.le_trans (hf n c) (yk f hf r (f n c))
theorem MO (l r:List UInt8):gd l<=gd (l ++ r):=by
 unfold gd;rw [List.foldl_append];exact yk _ (fun n c=>by omega) r _
theorem MP {l:List UInt8} {i:Nat} {c:UInt8} (h:l[i]? = some c):gd (l.take (i + 1))=gd (l.take i) * 10 + (c.toNat - 48):=by
 rw [List.take_add_one,h];exact Bb _ _
theorem Ut (l:List UInt8) (i:Nat):gd (l.take i)<=gd l:=by
 have:=MO (l.take i) (l.drop i)
 rwa [List.take_append_drop] at this
def im (l:List UInt8) (m:Bool):Int × Bool:=
 if m=true then (if gd l<=9223372036854775808 then (-(gd l:Nat),true) else (0,false))
 else (if gd l<=9223372036854775807 then ((gd l:Nat),true) else (0,false))
def takeN (s:ByteArray) (i:Nat):Int × Int × Int × Int:=
 let m:Bool:=match s.data.toList[i]? with | some c=>decide (c.toNat=45) | none=>false
 let a:Nat:=if m=true then i + 1 else i
 let k:=digN (s.data.toList.drop a)
 if k=0/\a=s.size then (0,0,5,a)
 else if k=0 then (0,0,19,a)
 else if (s.data.toList[a]?).map UInt8.toNat=some 48/\(1 < k∨m=true) then (0,0,19,i)
 else if (im ((s.data.toList.drop a).take k) m).2=true then ((im ((s.data.toList.drop a).take k) m).1,(a + k:Nat),0,0)
 else (0,0,13,i)
theorem Uu {n d:Int} (hn:n<=0) (hd:0<=d/\d<=9):n < (-9223372036854775808 + d).tdiv 10↔9223372036854775808 < -n * 10 + d:=by
 rw [X4 (by decide) (by omega)];omega
abbrev rnSt (s:ByteArray) (e:Nat):St:=⟨[(0,⟨[],.v (.string s)⟩),aJ 5 s.size,aJ 6 e],[],[]⟩
theorem tF (s:ByteArray) (hs:s.size<=4611686018427387904):bA prog 334 [.v (.string s)] (.v (.int .i64 (digN s.data.toList:Nat))):=by
 refine eG 23 [.tmp 2] func334 rfl ntmps334 rfl fun _ _ _ _=>?_;refine lI (fun j st=>∃ e:Nat,st=rnSt s e/\e<=s.size/\e + digN (s.data.toList.drop e)=digN s.data.toList/\j=s.size - e) ⟨0,rfl,by omega,by simp,rfl⟩ (dg wB) ?_;rintro j st ⟨e,rfl,he,hinv,rfl⟩;refine br ?_ ?_<;>intro h
 ·have aE:e < s.size:=sU h;obtain ⟨c,hd,hb⟩:=bJ aE;rw [hd,digN] at hinv;refine ⟨⟨by omega,by omega⟩,?_⟩
  have kG:gN c=false->DV.v (Value.int .i64 e) = .v (.int .i64 (digN s.data.toList:Nat)):=fun h=>by
   rw [ag (by rw [h];decide)] at hinv;rw [<- hinv];rfl
  refine br ?_ ?_<;>intro g
  ·have g:¬ c.toNat < 48:=by
    have:¬ ((aA s e:Nat):Int) < 48:=sU g;omega
   refine ⟨⟨by omega,by omega⟩,?_⟩;refine br ?_ ?_<;>intro g2
   ·have g2:57 < c.toNat:=by
     have:57 < ((aA s e:Nat):Int):=of_decide_eq_true g2;omega
    exact kG (by unfold gN;rw [decide_eq_false (p:=c.toNat<=57) (by omega),Bool.and_false])
   ·have g2:¬ 57 < c.toNat:=by
     have:¬ 57 < ((aA s e:Nat):Int):=of_decide_eq_false g2;omega
    rw [ah (by unfold gN;rw [decide_eq_true (by omega:48<=c.toNat),decide_eq_true (by omega:c.toNat<=57)];rfl)] at hinv;exact rE ⟨_,by omega,e + 1,rfl,by omega,by omega,rfl⟩ (dg (gv (cR aE (by omega))))
  ·have g:c.toNat < 48:=by
    have:((aA s e:Nat):Int) < 48:=sU g;omega
   exact kG (by unfold gN;rw [decide_eq_false (by omega),Bool.false_and])
 ·have hge:e=s.size:=by simp at h;omega
  rw [Ey (by omega)] at hinv;simp only [digN] at hinv;subst hge;refine congrArg (fun z=>DV.v (Value.int .i64 z)) ?_;omega
abbrev vlSt (s:ByteArray) (m:Bool) (n:Int) (e:Nat):St:=⟨[(0,⟨[],.v (.string s)⟩),Oq 1 m,aJ 6 n,aJ 10 s.size,aJ 11 e],[],[]⟩
theorem tG (s:ByteArray) (hs:s.size<=4611686018427387904) (m:Bool) (hd:∀ c∈s.data.toList,gN c=true):bA prog 335 [.v (.string s),.v (.bool m)] (.bK [.v (.int .i64 (im s.data.toList m).1),.v (.bool (im s.data.toList m).2)]):=by
 refine eG 35 [.tmp 4,.tmp 5] func335 rfl ntmps335 rfl fun _ _ _ _=>?_;refine lI (fun j st=>∃ e:Nat,st=vlSt s m (-(gd (s.data.toList.take e):Nat)) e/\e<=s.size/\gd (s.data.toList.take e)<=9223372036854775808/\j=s.size - e) ⟨0,rfl,by omega,by simp [gd],rfl⟩ (dg wB) ?_;rintro j st ⟨e,rfl,he,jk,rfl⟩;refine br ?_ ?_<;>intro h
 ·have aE:e < s.size:=sU h;obtain ⟨c,fx,hb⟩:=bJ aE
  have PV:s.data.toList[e]? = some c:=by
   have:=congrArg List.head? fx
   rwa [List.head?_drop,List.head?_cons] at this
  have L9:=hd c (mG PV);unfold gN at L9;simp only [bg,decide_eq_true_eq] at L9;have bp:=MP PV;have hmono:=Ut s.data.toList (e + 1);refine ⟨⟨by omega,by omega⟩,?_⟩;have nV:aA s (e:Int).toNat=c.toNat:=hb
  have hw:IntKind.i64.wrap (IntKind.u8.wrap ((aA s (e:Int).toNat:Nat) - 48))=((c.toNat - 48:Nat):Int):=by
   rw [nV,IntKind.wrap_u8,wrap64 (by omega) (by omega)];omega
  have lL:IntKind.i64.wrap (-9223372036854775808 + ((c.toNat - 48:Nat):Int)) = -9223372036854775808 + ((c.toNat - 48:Nat):Int):=wrap64 (by omega) (by omega);have hq:=Uu (n:=-(gd (s.data.toList.take e):Nat)) (d:=((c.toNat - 48:Nat):Int)) (by omega) (by omega)
  have Yx:(-9223372036854775808 + ((c.toNat - 48:Nat):Int)).tdiv 10 = -((9223372036854775808 - ((c.toNat - 48:Nat):Int)) / 10):=by
   rw [show -9223372036854775808 + ((c.toNat - 48:Nat):Int) = -(9223372036854775808 - ((c.toNat - 48:Nat):Int)) by omega,Int.neg_tdiv,Int.tdiv_eq_ediv_of_nonneg (by omega)]
  have DA:IntKind.i64.wrap ((-9223372036854775808 + ((c.toNat - 48:Nat):Int)).tdiv 10)=(-9223372036854775808 + ((c.toNat - 48:Nat):Int)).tdiv 10:=by
   rw [Yx];exact wrap64 (by omega) (by omega)
  refine ⟨⟨rfl,by decide⟩,?_⟩;refine br ?_ ?_<;>intro g
  ·have g:=of_decide_eq_true g;rw [hw,lL,DA,hq] at g;have cV:9223372036854775808 < gd s.data.toList:=by omega
   have hv:im s.data.toList m=(0,false):=by
    unfold im;cases m
    ·rw [ag (by decide),ag (by omega)]
    ·rw [ah rfl,ag (by omega)]
   rw [hv];exact ⟨_,ax,rfl⟩
  ·have g:=of_decide_eq_false g;rw [hw,lL,DA,hq] at g
   have Pa:IntKind.i64.wrap (IntKind.i64.wrap (-(gd (s.data.toList.take e):Nat) * 10) - IntKind.i64.wrap (IntKind.u8.wrap ((aA s (e:Int).toNat:Nat) - 48))) = -(gd (s.data.toList.take (e + 1)):Nat):=by
    rw [hw,wrap64 (n:=-(gd (s.data.toList.take e):Nat) * 10) (by omega) (by omega),wrap64 (by omega) (by omega)];omega
   exact rE ⟨_,by omega,e + 1,rfl,by omega,by omega,rfl⟩ (dg (re (cR aE (by omega)) Pa))
 ·have hge:e=s.size:=by simp at h;omega
  subst hge;rw [List.take_of_length_le (by simp)] at jk ⊢
  cases m with
  | true=>
   have hv:im s.data.toList true=(-((gd s.data.toList:Nat):Int),true):=by
    unfold im;rw [ah rfl,ah (by omega)]
   rw [hv];exact ⟨_,ax,rfl⟩
  | false=>
   refine br ?_ ?_<;>intro g
   ·have g:=of_decide_eq_true g
    have hv:im s.data.toList false=(0,false):=by
     unfold im;rw [ag (by decide),ag (by omega)]
    rw [hv];exact ⟨_,ax,rfl⟩
   ·have g:=of_decide_eq_false g
    have hw:IntKind.i64.wrap (0 - -((gd s.data.toList:Nat):Int))=((gd s.data.toList:Nat):Int):=by
     rw [wrap64 (by omega) (by omega)];omega
    have hv:im s.data.toList false=(IntKind.i64.wrap (0 - -((gd s.data.toList:Nat):Int)),true):=by
     rw [hw];unfold im;rw [ag (by decide),ah (by omega)]
    rw [hv];exact ⟨_,ax,rfl⟩
theorem Q0 (s:ByteArray) (hs:s.size<=1099511627776) (i:Nat) (hi:i < s.size) (c:UInt8) (hc:s.data.toList[i]? = some c) (hd:gN c=true) (hz:c.toNat=48->digN (s.data.toList.drop i)=1) (hv:gd ((s.data.toList.drop i).take (digN (s.data.toList.drop i)))<=9223372036854775807) :
  bA prog 291 [.v (.string s),.v (.int .i64 i)] (.bK [.v (.int .i64 (gd ((s.data.toList.drop i).take (digN (s.data.toList.drop i))):Nat)),.v (.int .i64 ((i + digN (s.data.toList.drop i):Nat):Int)),Ft.d (0,0)]):=by
 obtain ⟨c',fx,hb⟩:=bJ hi
 have pJ:c'=c:=by
  have:=congrArg List.head? fx;rw [List.head?_drop,List.head?_cons,hc] at this;exact (Option.some.inj this).symm
 subst pJ;have hbi:aA s (i:Int).toNat=c'.toNat:=hb
 have h1:1<=digN (s.data.toList.drop i):=by
  rw [fx,digN,ah hd];omega
 have h2:=rV (s.data.toList.drop i);rw [List.length_drop] at h2;have v8:s.data.toList.length=s.size:=by simp
 unfold gN at hd;simp only [bg,decide_eq_true_eq] at hd;have hx:(s.extract i (s.size:Int).toNat).data.toList=s.data.toList.drop i:=vI s i hs
 have bS:=tF (s.extract i (s.size:Int).toNat) (by
  have:=congrArg List.length hx;rw [List.length_drop] at this;have h3:(s.extract i (s.size:Int).toNat).data.toList.length=(s.extract i (s.size:Int).toNat).size:=by simp
  omega)
 rw [hx] at bS;have iV:=rW (s.data.toList.drop i);generalize hK:digN (s.data.toList.drop i)=k at *
 have hy:(s.extract i (i + k)).data.toList=(s.data.toList.drop i).take k:=by
  have h3:i + k<=s.size:=by omega
  simp
  all_goals omega
 have hval:=tG (s.extract i (i + k)) (by
  have:=congrArg List.length hy;rw [zLenT,List.length_drop] at this;have h3:(s.extract i (i + k)).data.toList.length=(s.extract i (i + k)).size:=by rw [Array.length_toList,ByteArray.size_data]
  omega) false (by rw [hy];exact iV)
 rw [hy] at hval;generalize (s.data.toList.drop i).take k=L at hval hv ⊢
 have hR:im L false=(((gd L:Nat):Int),true):=by
  unfold im;rw [ag (by decide),ah hv]
 rw [hR] at hval;generalize gd L=V at hval hv ⊢;clear hR iV hx hy
 have hw:IntKind.i64.wrap ((i:Int) + k)=((i + k:Nat):Int):=by
  rw [wrap64 (by omega) (by omega)];omega
 rw [<- hw];refine eG 88 [.tmp 4,.tmp 5,.cell 6 26] func291 rfl ntmps291 rfl fun _ _ _ _=>?_;refine br (fun g=>?_) (fun _=>?_)
 ·exfalso;simp [aD] at g;omega
 refine br (fun _=>?_) (fun g=>absurd (show (i:Int) < s.size by omega) (sU g));refine ⟨⟨by omega,by omega⟩,?_⟩;have YP:¬ ((aA s (i:Int).toNat:Nat):Int)=45:=by omega
 refine br (fun g=>?_) (fun _=>?_)
 ·exfalso;exact YP (by simpa [pickB] using g)
 refine ⟨⟨by omega,by omega,by omega⟩,?_⟩;refine cP OT bS ?_;refine br (fun g=>?_) (fun _=>?_)
 ·exfalso;have g:((k:Nat):Int)=0/\(i:Int)=s.size:=by simpa [aC] using g
  omega
 refine br (fun g=>?_) (fun _=>?_)
 ·exfalso;have g:((k:Nat):Int)=0:=of_decide_eq_true g;omega
 refine ⟨⟨by omega,by omega⟩,?_⟩;refine br (fun g=>?_) (fun _=>?_)
 ·exfalso;simp [aC,aD] at g;have CT:aA s i=48:=by omega
  have:=hz (by omega);omega
 have hval:bA prog 335 [.v (.string (s.extract (i:Int).toNat (IntKind.i64.wrap ((i:Int) + k)).toNat)),.v (.bool (decide (((aA s (i:Int).toNat:Nat):Int)=45)))] (.bK [.v (.int .i64 V),.v (.bool true)]):=by
  rw [hw,decide_eq_false YP];exact hval
 refine ⟨⟨by omega,by omega,by omega⟩,?_⟩;refine cP OU hval ?_;exact ⟨_,ax,rfl⟩
def vo (T:List UInt8) (n i a:Nat) (m:Bool):Int × Int × Int × Int:=
 if digN (T.drop a)=0/\a=n then (0,0,5,a)
 else if digN (T.drop a)=0 then (0,0,19,a)
 else if (T[a]?).map UInt8.toNat=some 48/\(1 < digN (T.drop a)∨m=true) then (0,0,19,i)
 else if (im ((T.drop a).take (digN (T.drop a))) m).2=true then ((im ((T.drop a).take (digN (T.drop a))) m).1,(a + digN (T.drop a):Nat),0,0)
 else (0,0,13,i)
theorem oA {s:ByteArray} {i:Nat} {c:UInt8} (h:(tx s)[i]? = some c):takeN s i=vo (tx s) s.size i (if c.toNat=45 then i + 1 else i) (decide (c.toNat=45)):=by
 unfold takeN vo;have h':s.data.toList[i]? = some c:=h;rw [h'];by_cases h5:c.toNat=45
 ·simp only [h5,decide_true,if_true];rfl
 ·simp only [decide_eq_false h5,ag h5];rfl
theorem FR {l:List UInt8} {m:Bool} (h:(im l m).2=false):im l m=(0,false):=by grind [im]
abbrev tkD (q:Int × Int × Int × Int):DV:=.bK [.v (.int .i64 q.1),.v (.int .i64 q.2.1),Ft.d q.2.2]
set_option maxHeartbeats 2000000 in
theorem IA (s:ByteArray) (hs:s.size<=1099511627776) (i:Nat) (hi:i < s.size):bA prog 291 [.v (.string s),.v (.int .i64 i)] (tkD (takeN s i)):=by
 have nE:=bH s;obtain ⟨c,fx,hb⟩:=bJ hi
 have Xw:(tx s)[i]? = some c:=by
  have:=congrArg List.head? fx
  rwa [List.head?_drop,List.head?_cons] at this
 rw [oA Xw];obtain ⟨zi,Uv⟩:∃ zi:Int,zi=(i:Nat):=⟨_,rfl⟩;obtain ⟨z,hz⟩:∃ z:Int,z=((c.toNat:Nat):Int):=⟨_,rfl⟩;have nV:((aA s zi.toNat:Nat):Int)=z:=by rw [Uv,lD,hb,hz]
 have zA:IntKind.i64.wrap (zi + 1)=((i + 1:Nat):Int):=by rw [Uv];exact cR hi (by omega)
 rw [<- Uv];by_cases YP:c.toNat=45
 ·have Uw:z=45:=by omega
  rw [ah YP,decide_eq_true YP];have hA:IntKind.i64.wrap (zi + 1)=((i + 1:Nat):Int):=zA;have hle0:i + 1<=s.size:=by omega
  have hx:tx (s.extract (IntKind.i64.wrap (zi + 1)).toNat (s.size:Int).toNat)=(tx s).drop (i + 1):=by rw [hA,lD];exact vI s (i + 1) hs
  have wg:=congrArg List.length hx;rw [bH,List.length_drop,nE] at wg;have bS:bA prog 334 [.v (.string (s.extract (IntKind.i64.wrap (zi + 1)).toNat (s.size:Int).toNat))] (.v (.int .i64 (digN (tx (s.extract (IntKind.i64.wrap (zi + 1)).toNat (s.size:Int).toNat)):Nat))):=tF _ (by omega);rw [hx] at bS;have qM:=rV ((tx s).drop (i + 1));rw [List.length_drop,nE] at qM;have iV:=rW ((tx s).drop (i + 1))
  have hR:vo (tx s) s.size i (i + 1) true=if digN ((tx s).drop (i + 1))=0/\(i + 1)=s.size then (0,0,5,((i + 1:Nat):Int))
   else if digN ((tx s).drop (i + 1))=0 then (0,0,19,((i + 1:Nat):Int))
   else if ((tx s)[i + 1]?).map UInt8.toNat=some 48/\(1 < digN ((tx s).drop (i + 1))∨true=true) then (0,0,19,((i:Nat):Int))
   else if (im (((tx s).drop (i + 1)).take (digN ((tx s).drop (i + 1)))) true).2=true then ((im (((tx s).drop (i + 1)).take (digN ((tx s).drop (i + 1)))) true).1,(((i + 1) + digN ((tx s).drop (i + 1)):Nat):Int),0,0)
   else (0,0,13,((i:Nat):Int)):=rfl
  generalize vo (tx s) s.size i (i + 1) true=R at hR ⊢;have hy:∀ k,(i + 1) + k<=s.size->tx (s.extract (i + 1) ((i + 1) + k))=((tx s).drop (i + 1)).take k:=fun k hk=>by simp [tx,List.drop_take]
  generalize hK:digN ((tx s).drop (i + 1))=k at *;obtain ⟨zk,hzk⟩:∃ zk:Int,zk=((k:Nat):Int):=⟨_,rfl⟩;rw [<- hzk] at bS;have hY:=hy k (by omega);have S7:IntKind.i64.wrap (IntKind.i64.wrap (zi + 1) + zk)=((i + 1 + k:Nat):Int):=by rw [hA,hzk,wrap64 (by omega) (by omega)];omega
  have Cp:(IntKind.i64.wrap (IntKind.i64.wrap (zi + 1) + zk)).toNat=i + 1 + k:=by omega
  have Ux:(IntKind.i64.wrap (zi + 1)).toNat=i + 1:=by omega
  have hval:=tG (s.extract (IntKind.i64.wrap (zi + 1)).toNat (IntKind.i64.wrap (IntKind.i64.wrap (zi + 1) + zk)).toNat) (by
   rw [Ux,Cp];have:=congrArg List.length hY;rw [bH,zLenT,List.length_drop] at this
   omega) true (by rw [Ux,Cp];show ∀ c∈tx _,_;rw [hY];exact iV)
  have hY':(s.extract (IntKind.i64.wrap (zi + 1)).toNat (IntKind.i64.wrap (IntKind.i64.wrap (zi + 1) + zk)).toNat).data.toList=((tx s).drop (i + 1)).take k:=by rw [Ux,Cp];exact hY
  rw [hY'] at hval;have YQ:=@FR (((tx s).drop (i + 1)).take k) true;generalize im (((tx s).drop (i + 1)).take k) true=V at hval hR YQ;obtain ⟨V1,V2⟩:=V;simp only at hR YQ;have hvD:DV.v (.bool (decide (z=45))) = .v (.bool true):=by rw [decide_eq_true Uw]
  rw [<- hvD] at hval;refine eG 88 [.tmp 4,.tmp 5,.cell 6 26] func291 rfl ntmps291 rfl fun _ _ _ _=>?_;refine br (fun g=>?_) (fun _=>?_)
  ·exfalso;simp [aD] at g;omega
  refine br (fun _=>?_) (fun g=>absurd (show zi < s.size by omega) (sU g));refine ⟨⟨by omega,by omega⟩,?_⟩;rw [nV];refine br (fun _=>?_) (fun g=>?_)
  rotate_left
  ·exfalso;simp [pickB,Uw] at g
  refine ⟨⟨by omega,by omega,by omega⟩,?_⟩;refine cP OT bS ?_;by_cases h0:k=0
  ·by_cases hE:i + 1=s.size
   ·rw [ah ⟨h0,hE⟩] at hR;subst hR;refine br (fun _=>?_) (fun g=>?_)
    rotate_left
    ·exfalso;simp [aC] at g;omega
    have hX:=congrArg (fun z=>DV.v (.int .i64 z)) hA;exact ⟨_,(by repeat' (first | exact rfl | exact trivial | exact Or.inr (Or.inl ⟨_,rfl⟩) | exact Or.inr ⟨_,rfl⟩ | exact Or.inl ⟨rfl,rfl⟩ | exact Or.inl rfl | refine Or.inr ⟨_,_,rfl,Nat.zero_le _,rfl,?_⟩ | refine ⟨_,_,rfl,?_,?_⟩ | refine ⟨_,rfl,?_⟩ | exact hX | refine Or.inr (Or.inr (Or.inr ⟨_,_,rfl,?_⟩)) | exact Or.inl rfl | refine Or.inr ?_)),rfl⟩
   ·rw [ag (fun h=>hE h.2),ah h0] at hR;subst hR;refine br (fun g=>?_) (fun _=>?_)
    ·exfalso;simp [aC] at g;omega
    refine br (fun _=>?_) (fun g=>absurd (show zk=0 by omega) (sU g));have hX:=congrArg (fun z=>DV.v (.int .i64 z)) hA;exact ⟨_,(by repeat' (first | exact rfl | exact trivial | exact Or.inr (Or.inl ⟨_,rfl⟩) | exact Or.inr ⟨_,rfl⟩ | exact Or.inl ⟨rfl,rfl⟩ | exact Or.inl rfl | refine Or.inr ⟨_,_,rfl,Nat.zero_le _,rfl,?_⟩ | refine ⟨_,_,rfl,?_,?_⟩ | refine ⟨_,rfl,?_⟩ | exact hX | refine Or.inr (Or.inr (Or.inr ⟨_,_,rfl,?_⟩)) | exact Or.inl rfl | refine Or.inr ?_)),rfl⟩
  rw [ag (fun h=>h0 h.1),ag h0] at hR;refine br (fun g=>?_) (fun _=>?_)
  ·exfalso;simp [aC] at g;omega
  refine br (fun g=>absurd (of_decide_eq_true g) (by omega)) (fun _=>?_);obtain ⟨b,hdb,SB⟩:=bJ (s:=s) (k:=i + 1) (by omega)
  have hbi:(tx s)[i + 1]? = some b:=by
   have:=congrArg List.head? hdb
   rwa [List.head?_drop,List.head?_cons] at this
  rw [hbi] at hR;obtain ⟨zb,hzb⟩:∃ zb:Int,zb=((b.toNat:Nat):Int):=⟨_,rfl⟩;have YR:((aA s (IntKind.i64.wrap (zi + 1)).toNat:Nat):Int)=zb:=by rw [Ux,SB,hzb]
  refine ⟨⟨by omega,by omega⟩,?_⟩;rw [YR];by_cases CT:b.toNat=48/\(1 < k∨true=true)
  ·rw [ah ⟨by simp [CT.1],by simpa using CT.2⟩] at hR;subst hR;refine br (fun _=>?_) (fun g=>?_)
   rotate_left
   ·exfalso;have:=CT.1;simp [aC,aD,Uw] at g;omega
   have hX:=congrArg (fun z=>DV.v (.int .i64 z)) Uv;exact ⟨_,(by repeat' (first | exact rfl | exact trivial | exact Or.inr (Or.inl ⟨_,rfl⟩) | exact Or.inr ⟨_,rfl⟩ | exact Or.inl ⟨rfl,rfl⟩ | exact Or.inl rfl | refine Or.inr ⟨_,_,rfl,Nat.zero_le _,rfl,?_⟩ | refine ⟨_,_,rfl,?_,?_⟩ | refine ⟨_,rfl,?_⟩ | exact hX | refine Or.inr (Or.inr (Or.inr ⟨_,_,rfl,?_⟩)) | exact Or.inl rfl | refine Or.inr ?_)),rfl⟩
  rw [ag (fun h=>CT ⟨by simpa using h.1,by simpa using h.2⟩)] at hR;refine br (fun g=>?_) (fun _=>?_)
  ·exfalso;simp [aC,aD,Uw] at g;apply CT;exact ⟨by omega,.inr rfl⟩
  refine ⟨⟨by omega,by omega,by omega⟩,?_⟩;refine cP OU hval ?_
  cases V2 with
  | true=>
   rw [ah rfl] at hR;subst hR;have hX:=congrArg (fun z=>DV.v (.int .i64 z)) S7;exact ⟨_,(by repeat' (first | exact rfl | exact trivial | exact Or.inr (Or.inl ⟨_,rfl⟩) | exact Or.inr ⟨_,rfl⟩ | exact Or.inl ⟨rfl,rfl⟩ | exact Or.inl rfl | refine Or.inr ⟨_,_,rfl,Nat.zero_le _,rfl,?_⟩ | refine ⟨_,_,rfl,?_,?_⟩ | refine ⟨_,rfl,?_⟩ | exact hX | refine Or.inr (Or.inr (Or.inr ⟨_,_,rfl,?_⟩)) | exact Or.inl rfl | refine Or.inr ?_)),rfl⟩
  | false=>
   have:=YQ rfl;injection this with hV1 _
   subst hV1;rw [ag (by simp)] at hR;subst hR;have hX:=congrArg (fun z=>DV.v (.int .i64 z)) Uv;exact ⟨_,(by repeat' (first | exact rfl | exact trivial | exact Or.inr (Or.inl ⟨_,rfl⟩) | exact Or.inr ⟨_,rfl⟩ | exact Or.inl ⟨rfl,rfl⟩ | exact Or.inl rfl | refine Or.inr ⟨_,_,rfl,Nat.zero_le _,rfl,?_⟩ | refine ⟨_,_,rfl,?_,?_⟩ | refine ⟨_,rfl,?_⟩ | exact hX | refine Or.inr (Or.inr (Or.inr ⟨_,_,rfl,?_⟩)) | exact Or.inl rfl | refine Or.inr ?_)),rfl⟩
 ·have Uw:¬ z=45:=by omega
  rw [ag YP,decide_eq_false YP];have hA:zi=((i:Nat):Int):=Uv;have hle0:i<=s.size:=by omega
  have hx:tx (s.extract (zi).toNat (s.size:Int).toNat)=(tx s).drop (i):=by rw [hA,lD];exact vI s (i) hs
  have wg:=congrArg List.length hx;rw [bH,List.length_drop,nE] at wg;have bS:bA prog 334 [.v (.string (s.extract (zi).toNat (s.size:Int).toNat))] (.v (.int .i64 (digN (tx (s.extract (zi).toNat (s.size:Int).toNat)):Nat))):=tF _ (by omega);rw [hx] at bS;have qM:=rV ((tx s).drop (i));rw [List.length_drop,nE] at qM;have iV:=rW ((tx s).drop (i))
  have hR:vo (tx s) s.size i (i) false=if digN ((tx s).drop (i))=0/\(i)=s.size then (0,0,5,((i:Nat):Int))
   else if digN ((tx s).drop (i))=0 then (0,0,19,((i:Nat):Int))
   else if ((tx s)[i]?).map UInt8.toNat=some 48/\(1 < digN ((tx s).drop (i))∨false=true) then (0,0,19,((i:Nat):Int))
   else if (im (((tx s).drop (i)).take (digN ((tx s).drop (i)))) false).2=true then ((im (((tx s).drop (i)).take (digN ((tx s).drop (i)))) false).1,(((i) + digN ((tx s).drop (i)):Nat):Int),0,0)
   else (0,0,13,((i:Nat):Int)):=rfl
  generalize vo (tx s) s.size i (i) false=R at hR ⊢;have hy:∀ k,(i) + k<=s.size->tx (s.extract (i) ((i) + k))=((tx s).drop (i)).take k:=fun k hk=>by simp [tx,List.drop_take]
  generalize hK:digN ((tx s).drop (i))=k at *;obtain ⟨zk,hzk⟩:∃ zk:Int,zk=((k:Nat):Int):=⟨_,rfl⟩;rw [<- hzk] at bS;have hY:=hy k (by omega);have S7:IntKind.i64.wrap (zi + zk)=((i + k:Nat):Int):=by rw [hA,hzk,wrap64 (by omega) (by omega)];omega
  have Cp:(IntKind.i64.wrap (zi + zk)).toNat=i + k:=by omega
  have Ux:(zi).toNat=i:=by omega
  have hval:=tG (s.extract (zi).toNat (IntKind.i64.wrap (zi + zk)).toNat) (by
   rw [Ux,Cp];have:=congrArg List.length hY;rw [bH,zLenT,List.length_drop] at this
   omega) false (by rw [Ux,Cp];show ∀ c∈tx _,_;rw [hY];exact iV)
  have hY':(s.extract (zi).toNat (IntKind.i64.wrap (zi + zk)).toNat).data.toList=((tx s).drop (i)).take k:=by rw [Ux,Cp];exact hY
  rw [hY'] at hval;have YQ:=@FR (((tx s).drop (i)).take k) false;generalize im (((tx s).drop (i)).take k) false=V at hval hR YQ;obtain ⟨V1,V2⟩:=V;simp only at hR YQ;have hvD:DV.v (.bool (decide (z=45))) = .v (.bool false):=by rw [decide_eq_false Uw]
  rw [<- hvD] at hval;refine eG 88 [.tmp 4,.tmp 5,.cell 6 26] func291 rfl ntmps291 rfl fun _ _ _ _=>?_;refine br (fun g=>?_) (fun _=>?_)
  ·exfalso;simp [aD] at g;omega
  refine br (fun _=>?_) (fun g=>absurd (show zi < s.size by omega) (sU g));refine ⟨⟨by omega,by omega⟩,?_⟩;rw [nV];refine br (fun g=>?_) (fun _=>?_)
  ·exfalso;simp [pickB] at g;exact Uw g
  refine ⟨⟨by omega,by omega,by omega⟩,?_⟩;refine cP OT bS ?_;by_cases h0:k=0
  ·by_cases hE:i=s.size
   ·rw [ah ⟨h0,hE⟩] at hR;subst hR;refine br (fun _=>?_) (fun g=>?_)
    rotate_left
    ·exfalso;simp [aC] at g;omega
    have hX:=congrArg (fun z=>DV.v (.int .i64 z)) hA;exact ⟨_,(by repeat' (first | exact rfl | exact trivial | exact Or.inr (Or.inl ⟨_,rfl⟩) | exact Or.inr ⟨_,rfl⟩ | exact Or.inl ⟨rfl,rfl⟩ | exact Or.inl rfl | refine Or.inr ⟨_,_,rfl,Nat.zero_le _,rfl,?_⟩ | refine ⟨_,_,rfl,?_,?_⟩ | refine ⟨_,rfl,?_⟩ | exact hX | refine Or.inr (Or.inr (Or.inr ⟨_,_,rfl,?_⟩)) | exact Or.inl rfl | refine Or.inr ?_)),rfl⟩
   ·rw [ag (fun h=>hE h.2),ah h0] at hR;subst hR;refine br (fun g=>?_) (fun _=>?_)
    ·exfalso;simp [aC] at g;omega
    refine br (fun _=>?_) (fun g=>absurd (show zk=0 by omega) (sU g));have hX:=congrArg (fun z=>DV.v (.int .i64 z)) hA;exact ⟨_,(by repeat' (first | exact rfl | exact trivial | exact Or.inr (Or.inl ⟨_,rfl⟩) | exact Or.inr ⟨_,rfl⟩ | exact Or.inl ⟨rfl,rfl⟩ | exact Or.inl rfl | refine Or.inr ⟨_,_,rfl,Nat.zero_le _,rfl,?_⟩ | refine ⟨_,_,rfl,?_,?_⟩ | refine ⟨_,rfl,?_⟩ | exact hX | refine Or.inr (Or.inr (Or.inr ⟨_,_,rfl,?_⟩)) | exact Or.inl rfl | refine Or.inr ?_)),rfl⟩
  rw [ag (fun h=>h0 h.1),ag h0] at hR;refine br (fun g=>?_) (fun _=>?_)
  ·exfalso;simp [aC] at g;omega
  refine br (fun g=>absurd (of_decide_eq_true g) (by omega)) (fun _=>?_);obtain ⟨b,hdb,SB⟩:=bJ (s:=s) (k:=i) (by omega)
  have hbi:(tx s)[i]? = some b:=by
   have:=congrArg List.head? hdb
   rwa [List.head?_drop,List.head?_cons] at this
  rw [hbi] at hR;obtain ⟨zb,hzb⟩:∃ zb:Int,zb=((b.toNat:Nat):Int):=⟨_,rfl⟩;have YR:((aA s (zi).toNat:Nat):Int)=zb:=by rw [Ux,SB,hzb]
  refine ⟨⟨by omega,by omega⟩,?_⟩;rw [YR];by_cases CT:b.toNat=48/\(1 < k∨false=true)
  ·rw [ah ⟨by simp [CT.1],by simpa using CT.2⟩] at hR;subst hR;refine br (fun _=>?_) (fun g=>?_)
   rotate_left
   ·exfalso;have:=CT.2.resolve_right (by simp);simp [aC,aD,Uw] at g;omega
   have hX:=congrArg (fun z=>DV.v (.int .i64 z)) Uv;exact ⟨_,(by repeat' (first | exact rfl | exact trivial | exact Or.inr (Or.inl ⟨_,rfl⟩) | exact Or.inr ⟨_,rfl⟩ | exact Or.inl ⟨rfl,rfl⟩ | exact Or.inl rfl | refine Or.inr ⟨_,_,rfl,Nat.zero_le _,rfl,?_⟩ | refine ⟨_,_,rfl,?_,?_⟩ | refine ⟨_,rfl,?_⟩ | exact hX | refine Or.inr (Or.inr (Or.inr ⟨_,_,rfl,?_⟩)) | exact Or.inl rfl | refine Or.inr ?_)),rfl⟩
  rw [ag (fun h=>CT ⟨by simpa using h.1,by simpa using h.2⟩)] at hR;refine br (fun g=>?_) (fun _=>?_)
  ·exfalso;simp [aC,aD,Uw] at g;apply CT;exact ⟨by omega,.inl (by omega)⟩
  refine ⟨⟨by omega,by omega,by omega⟩,?_⟩;refine cP OU hval ?_
  cases V2 with
  | true=>
   rw [ah rfl] at hR;subst hR;have hX:=congrArg (fun z=>DV.v (.int .i64 z)) S7;exact ⟨_,(by repeat' (first | exact rfl | exact trivial | exact Or.inr (Or.inl ⟨_,rfl⟩) | exact Or.inr ⟨_,rfl⟩ | exact Or.inl ⟨rfl,rfl⟩ | exact Or.inl rfl | refine Or.inr ⟨_,_,rfl,Nat.zero_le _,rfl,?_⟩ | refine ⟨_,_,rfl,?_,?_⟩ | refine ⟨_,rfl,?_⟩ | exact hX | refine Or.inr (Or.inr (Or.inr ⟨_,_,rfl,?_⟩)) | exact Or.inl rfl | refine Or.inr ?_)),rfl⟩
  | false=>
   have:=YQ rfl;injection this with hV1 _
   subst hV1;rw [ag (by simp)] at hR;subst hR;have hX:=congrArg (fun z=>DV.v (.int .i64 z)) Uv;exact ⟨_,(by repeat' (first | exact rfl | exact trivial | exact Or.inr (Or.inl ⟨_,rfl⟩) | exact Or.inr ⟨_,rfl⟩ | exact Or.inl ⟨rfl,rfl⟩ | exact Or.inl rfl | refine Or.inr ⟨_,_,rfl,Nat.zero_le _,rfl,?_⟩ | refine ⟨_,_,rfl,?_,?_⟩ | refine ⟨_,rfl,?_⟩ | exact hX | refine Or.inr (Or.inr (Or.inr ⟨_,_,rfl,?_⟩)) | exact Or.inl rfl | refine Or.inr ?_)),rfl⟩
def ju (c:Nat):Bool:=decide (c=32) || decide (c=10) || decide (c=9) || decide (c=13)
theorem yl (c:Nat):bA prog 242 [.v (.int .u8 c)] (.v (.bool (ju c))):=by
 refine eG 17 [.tmp 2] func242 rfl ntmps242 rfl fun _ _ _ _=>?_;refine congrArg (fun z=>DV.v (Value.bool z)) ?_;unfold ju;simp only [aD];have e1:decide ((c:Int)=32)=decide (c=32):=decide_eq_decide.2 (by omega);have e2:decide ((c:Int)=10)=decide (c=10):=decide_eq_decide.2 (by omega);have e3:decide ((c:Int)=9)=decide (c=9):=decide_eq_decide.2 (by omega);have e4:decide ((c:Int)=13)=decide (c=13):=decide_eq_decide.2 (by omega);rw [e1,e2,e3,e4]
def lm:ByteArray:=⟨#[123,125,91,93,40,41,44,58,61,60,62,64,43,35,126,42]⟩
def pH:ByteArray:=⟨#[46,46]⟩
def eZ (s:ByteArray) (i:Nat):ByteArray:=if xm (s.extract i s.size) pH=true then pH else if 0<=Lib.indexByte (tx lm) (aA s i).toUInt8 then s.extract i (i + 1) else ⟨#[]⟩
theorem qD (s:ByteArray) (hs:s.size<=1099511627776) (i:Nat) (hi:i < s.size):bA prog 290 [.v (.string s),.v (.int .i64 i)] (.v (.string (eZ s i))):=by
 have hp:=LZ (s.extract i s.size) pH (by simp;omega);have hx:=EV lm (aA s i:Nat);have hM:eZ s i=if xm (s.extract i s.size) pH=true then pH else if 0<=Lib.indexByte (tx lm) (aA s i).toUInt8 then s.extract i (i + 1) else ⟨#[]⟩:=rfl
 rw [lD] at hx;generalize eZ s i=M at hM ⊢;generalize xm (s.extract i s.size) pH=B at hp hM;generalize Lib.indexByte (tx lm) (aA s i).toUInt8=I at hx hM
 have hw:IntKind.i64.wrap ((i:Int) + 1)=((i + 1:Nat):Int):=by
  rw [wrap64 (by omega) (by omega)];omega
 refine eG 30 [.tmp 4] func290 rfl ntmps290 rfl fun _ _ _ _=>?_;refine br (fun g=>?_) (fun _=>?_)
 ·exfalso;simp [aD] at g;omega
 refine ⟨⟨by omega,by omega,by omega⟩,?_⟩;refine cP aby hp ?_
 cases B with
 | true=>
  rw [ah rfl] at hM;rw [hM];exact (rfl:_=_)
 | false=>
  rw [ag (by simp)] at hM;refine ⟨⟨by omega,by omega⟩,?_⟩;refine cP VU hx ?_;refine br ?_ ?_<;>intro g
  ·have g:0<=I:=sU g;rw [ah g] at hM;rw [hM];refine ⟨⟨by omega,by rw [hw];omega,by rw [hw];omega⟩,?_⟩;rw [hw];exact (rfl:_=_)
  ·have g:¬ 0<=I:=sU g;rw [ag g] at hM;rw [hM];exact (rfl:_=_)
abbrev Q5 (t:dD):DV:=.bK [.agg (vn t),Ft.d (0,0)]
theorem IB (s:ByteArray) (hs:s.size<=1099511627776) (i:Nat) (hi:i < s.size) (e:Nat) (he:i + bu (s.data.toList.drop i)=e) (hn:i < e) (hr:ay (s.extract i e)=true) :
  bA prog 244 [.v (.string s),.v (.int .i64 i)] (Q5 ⟨1,i,e,s.extract i e,0⟩):=by
 have ht:=lS s i hi (by omega);rw [he] at ht
 have Hh:e<=s.size:=by
  have:=kk (s.data.toList.drop i);simp at this;omega
 have hrr:=fG (s.extract i e) (by simp;omega);rw [hr] at hrr
 have bo:¬ s.extract i e=⟨#[]⟩:=fun h=>by
  have:=congrArg ByteArray.size h;simp at this;have h2:(ByteArray.mk #[]).size=0:=rfl;omega
 generalize s.extract i e=M at *;refine eG 103 [.cell 4 218,.cell 5 26] func244 rfl ntmps244 rfl fun _ _ _ _=>?_;refine cP uj ht ?_;refine br (fun _=>?_) (fun g=>absurd (show M=⟨#[]⟩ by simpa using g) bo);refine cP Ek hrr ?_;exact ⟨_,ax,rfl⟩
theorem nh (s:ByteArray) (hs:s.size<=1099511627776) (i:Nat) (hi:i < s.size) (hn:bu (s.data.toList.drop i)=0) (M:ByteArray) (hM:eZ s i=M) (bo:¬ M=⟨#[]⟩) (di:M.size<=2) :
  bA prog 244 [.v (.string s),.v (.int .i64 i)] (Q5 ⟨4,i,(i + M.size:Nat),M,0⟩):=by
 have ht:=lS s i hi (by omega);rw [hn,jH] at ht;have hm:=qD s hs i hi;rw [hM] at hm
 have hw:IntKind.i64.wrap ((i:Int) + M.size)=((i + M.size:Nat):Int):=by
  rw [wrap64 (by omega) (by omega)];omega
 have hX:=congrArg (fun z=>DV.v (Value.int .i64 z)) hw;refine eG 103 [.cell 4 218,.cell 5 26] func244 rfl ntmps244 rfl fun _ _ _ _=>?_;refine cP uj ht ?_;refine cP JQ hm ?_;refine br (fun _=>?_) (fun g=>absurd (show M=⟨#[]⟩ by simpa using g) bo);exact ⟨_,(by repeat' (first | exact rfl | exact trivial | exact Or.inr (Or.inl ⟨_,rfl⟩) | exact Or.inr ⟨_,rfl⟩ | exact Or.inl ⟨rfl,rfl⟩ | exact Or.inl rfl | refine Or.inr ⟨_,_,rfl,Nat.zero_le _,rfl,?_⟩ | refine ⟨_,_,rfl,?_,?_⟩ | refine ⟨_,rfl,?_⟩ | exact hX | refine Or.inr (Or.inr (Or.inr ⟨_,_,rfl,?_⟩)) | exact Or.inl rfl | refine Or.inr ?_)),rfl⟩
theorem MQ (s:ByteArray) (hs:s.size<=1099511627776) (i:Nat) (hi:i < s.size) (hn:bu (s.data.toList.drop i)=0) (hM:eZ s i=⟨#[]⟩) (hc:aA s i=45∨48<=aA s i/\aA s i<=57) (z:Int) (e:Nat)
  (hd:bA prog 291 [.v (.string s),.v (.int .i64 i)] (.bK [.v (.int .i64 z),.v (.int .i64 e),Ft.d (0,0)])) :
  bA prog 244 [.v (.string s),.v (.int .i64 i)] (Q5 ⟨2,i,e,aZ,z⟩):=by
 have ht:=lS s i hi (by omega);rw [hn,jH] at ht;have hm:=qD s hs i hi;rw [hM] at hm;generalize hB:aA s i=c at hc;refine eG 103 [.cell 4 218,.cell 5 26] func244 rfl ntmps244 rfl fun _ _ _ _=>?_;refine cP uj ht ?_;refine cP JQ hm ?_;refine ⟨⟨by omega,by omega⟩,?_⟩;refine br (fun _=>?_) (fun g=>?_)
 ·refine cP VS hd ?_;refine cr [0,1] (fun _=>false) mo (by decide +kernel) ?_;exact ⟨_,ax,rfl⟩
 ·exfalso;rw [lD,hB] at g;simp [aD,aC] at g;omega
inductive ni (s:ByteArray):Nat->List dD->Prop
 | nil:ni s s.size []
 | blank {i:Nat} {l:List dD}:i < s.size->ju (aA s i)=true->ni s (i + 1) l->ni s i l
 | tok {i e:Nat} {t:dD} {l:List dD}:i < s.size->ju (aA s i)=false->aA s i≠59->bA prog 244 [.v (.string s),.v (.int .i64 i)] (Q5 t)->t.e=e->i < e->e<=s.size->ni s e l->ni s i (t :: l)
abbrev Q6 (s:ByteArray) (L:List dD) (q dA:Nat):St:=⟨[(0,⟨[],.v (.string s)⟩),(2,⟨[],.v (.slice none 0 0)⟩),bq 3 0,(4,⟨[],.sl 5 (gp L) (some 0)⟩),bq 5 1,aJ 6 dA],[NX,NX],[⟨q,218,5,none⟩]⟩
theorem Bc (s:ByteArray) (hs:s.size<=65536) (l:List dD) (hl:ni s 0 l):bA prog 157 [.v (.string s)] (.bK [.sl 5 (gp (l ++ [gR s.size])) none,Ft.d (0,0)]):=by
 refine eG 63 [.tmp 2,.cell 3 26] func157 rfl ntmps157 rfl fun _ _ _ _=>?_;refine br (fun g=>absurd (show 65536 < s.size by have:=of_decide_eq_true g;omega) (by omega)) (fun _=>?_);refine lI (fun j st=>∃ (i q:Nat) (L r:List dD),st=Q6 s L q i/\q=L.length/\ni s i r/\L ++ r=l/\L.length<=i/\i<=s.size/\j=s.size - i) ⟨0,0,[],l,rfl,rfl,hl,rfl,by simp,by omega,rfl⟩ (jG 2 ⟨0,218,5,none⟩ rfl rfl rfl JB rfl rfl vb) ?_;rintro j st ⟨i,q,L,r,rfl,hq,hr,NY,hLi,his,rfl⟩;refine br (fun aE=>?_) (fun hge=>?_)
 ·have aE:i < s.size:=sU aE;have hb:=yl (aA s i);refine ⟨⟨by omega,by omega⟩,?_⟩
  cases hr with
  | nil=>omega
  | blank _ h1 h2=>
   rw [h1] at hb;refine cP wP hb ?_;exact ⟨Q6 s L q (i + 1),(kD 2 (Ea (cR aE (by omega))) (gv (cR aE (by omega)))),s.size - (i + 1),by omega,i + 1,q,L,_,rfl,hq,h2,NY,by omega,by omega,rfl⟩
  | @tok _ e t l' _ h1 h2 h3 h4 h5 h6 h7=>
   rw [h1] at hb;refine cP wP hb ?_;refine ⟨⟨by omega,by omega⟩,?_⟩;refine br (fun g=>absurd (show aA s i=59 by have:=of_decide_eq_true g;rw [lD] at this;omega) h2) (fun _=>?_);obtain ⟨tk,ta,te,ts,tn⟩:=t;simp only at h4;subst h4;refine cP OQ h3 ?_;refine ⟨(dK L).trans hq.symm,⟨by simp [maxLen,dK];omega,by simp [dK];omega⟩,?_⟩;exact rE ⟨_,by omega,e,q + 1,L ++ [⟨tk,ta,e,ts,tn⟩],l',rfl,by simp [hq],h7,by simpa using NY,by simp;omega,h6,rfl⟩ (kD 2 (Ea (iO L ⟨tk,ta,e,ts,tn⟩)) (gv (iO L ⟨tk,ta,e,ts,tn⟩)))
 ·have hge:s.size=i:=by
   have:=of_decide_eq_false hge;omega
  subst hge
  cases hr with
  | nil=>
   rw [List.append_nil] at NY;subst NY;refine cr [0] (fun _=>false) mo (by decide +kernel) ?_;refine ⟨(dK L).trans hq.symm,⟨by simp [maxLen,dK];omega,by simp [dK];omega⟩,?_⟩;rw [<- iO];exact ⟨_,ax,rfl⟩
  | blank h=>exact absurd h (Nat.lt_irrefl _)
  | tok h=>exact absurd h (Nat.lt_irrefl _)
def FT:dD:=⟨0,0,0,aZ,0⟩
def oB (s:ByteArray) (i:Nat):dD × Ft:=
 if bu ((tx s).drop i)≠0 then (if bu ((tx s).drop i)<=32 then (⟨1,i,(i + bu ((tx s).drop i):Nat),s.extract i (i + bu ((tx s).drop i)),0⟩,(0,0)) else (FT,(9,(i:Int))))
 else if ¬ eZ s i=⟨#[]⟩ then (⟨4,i,(i + (eZ s i).size:Nat),eZ s i,0⟩,(0,0))
 else if aA s i=45∨(48<=aA s i/\aA s i<=57) then (if (takeN s i).2.2.1=0 then (⟨2,i,(takeN s i).2.1,aZ,(takeN s i).1⟩,(0,0)) else (FT,(takeN s i).2.2))
 else if aA s i=34 then (if (nN (tx s) i).2.2.1=0 then (⟨3,i,(nN (tx s) i).2.1,ba (nN (tx s) i).1,0⟩,(0,0)) else (FT,(nN (tx s) i).2.2))
 else (FT,(if okU ((tx s).drop i)=true then 3 else 2,(i:Int)))
theorem Uy {T:List UInt8} {n i a:Nat} {m:Bool} (h:(vo T n i a m).2.2.1=0):(vo T n i a m).2.2=(0,0):=by grind [vo,digN,im]
theorem Q7 {s:ByteArray} {i:Nat} (hi:i < s.size) (h:(takeN s i).2.2.1=0):(takeN s i).2.2=(0,0):=by
 obtain ⟨c,fx,hb⟩:=bJ hi
 have Xw:(tx s)[i]? = some c:=by
  have:=congrArg List.head? fx
  rwa [List.head?_drop,List.head?_cons] at this
 rw [oA Xw] at h ⊢;exact Uy h
theorem Kq:∀ (k:Nat) (l:List UInt8) (a:Nat) (out:List UInt8),(unqU k l a out).2.2.1=0->(unqU k l a out).2.2=(0,0)/\a < (unqU k l a out).2.1/\(unqU k l a out).2.1<=a + l.length
 | 0,_,_,_,h=>by simp [unqU] at h
 | _ + 1,[],_,_,h=>by simp [unqU] at h
 | k + 1,c :: r,a,out,h=>by
  have hu:=kU (l:=c :: r) (by simp);have ho:=rU (c :: r);have ih:=Kq k
  grind [unqU,oneE,okU,pD,recV,jK]
theorem Kr {s:ByteArray} {i:Nat} (hi:i < s.size) (h:(nN (tx s) i).2.2.1=0):(nN (tx s) i).2.2=(0,0)/\i < (nN (tx s) i).2.1/\(nN (tx s) i).2.1<=s.size:=by grind [Kq,tx,bH,nN,unqU]
theorem IC (s:ByteArray) (hs:s.size<=1099511627776) (i:Nat) (hi:i < s.size):bA prog 293 [.v (.string s),.v (.int .i64 i)] (Ft.d (if okU ((tx s).drop i)=true then 3 else 2,(i:Int))):=by
 obtain ⟨c,fx,hb⟩:=bJ hi;have fx:(tx s).drop i=c :: (tx s).drop (i + 1):=fx;have hu:=s6 s i hs c _ fx;rw [fx];generalize okU (c :: (tx s).drop (i + 1))=ok at hu ⊢;refine eG 21 [.cell 4 26] func293 rfl ntmps293 rfl fun _ _ _ _=>?_;refine eo OR rfl hu ax (fun q hq=>?_);obtain ⟨z,n,rfl,_,_⟩:=hq
 cases ok with
 | true=>exact ⟨_,ax,rfl⟩
 | false=>exact ⟨_,ax,rfl⟩
theorem ID {s:ByteArray} {i n:Nat} (hn:bu ((tx s).drop i)=n) (h0:n≠0):ay (s.extract i (i + n))=decide (n<=32):=by
 have jk:=kk ((tx s).drop i);rw [hn,List.length_drop,bH] at jk;have hx:(s.extract i (i + n)).data.toList=((tx s).drop i).take n:=by simp_all [tx]
 have di:(s.extract i (i + n)).size=n:=by simp;omega
 have key:∀ l:List UInt8,signs (l.take (signs l))=signs l:=by
  intro l
  induction l with
  | nil=>rfl
  | cons c r ih=>grind [gC,signs]
 have adf:bu (((tx s).drop i).take n)=n:=by
  generalize (tx s).drop i=l at hn
  cases l with
  | nil=>exact absurd hn.symm (by simpa [bu] using h0)
  | cons c r=>grind [isLet,n7,signs,um,bu]
 rw [ay,hx,di,adf];simp;omega
abbrev tkfD (p:dD × Ft):DV:=.bK [.agg (vn p.1),Ft.d p.2]
set_option maxHeartbeats 2000000 in
theorem ym (s:ByteArray) (hs:s.size<=1099511627776) (i:Nat) (hi:i < s.size):bA prog 244 [.v (.string s),.v (.int .i64 i)] (tkfD (oB s i)):=by
 have hR:oB s i=if bu ((tx s).drop i)≠0 then (if bu ((tx s).drop i)<=32 then (⟨1,i,(i + bu ((tx s).drop i):Nat),s.extract i (i + bu ((tx s).drop i)),0⟩,(0,0)) else (FT,(9,(i:Int))))
  else if ¬ eZ s i=⟨#[]⟩ then (⟨4,i,(i + (eZ s i).size:Nat),eZ s i,0⟩,(0,0))
  else if aA s i=45∨(48<=aA s i/\aA s i<=57) then (if (takeN s i).2.2.1=0 then (⟨2,i,(takeN s i).2.1,aZ,(takeN s i).1⟩,(0,0)) else (FT,(takeN s i).2.2))
  else if aA s i=34 then (if (nN (tx s) i).2.2.1=0 then (⟨3,i,(nN (tx s) i).2.1,ba (nN (tx s) i).1,0⟩,(0,0)) else (FT,(nN (tx s) i).2.2))
  else (FT,(if okU ((tx s).drop i)=true then 3 else 2,(i:Int))):=rfl
 generalize oB s i=R at hR ⊢;have ht:=lS s i hi (by omega);have jh:=@ID s i _ rfl;have kR:=kk ((tx s).drop i);rw [List.length_drop,bH] at kR;have ht:bA prog 154 [.v (.string s),.v (.int .i64 i)] (.bK [.v (.string (s.extract i (i + bu ((tx s).drop i)))),.v (.int .i64 ((i + bu ((tx s).drop i):Nat):Int))]):=ht;have hm:=qD s hs i hi;have gj:=IA s hs i hi;have adg:=Q7 hi;have huq:=CS s hs i hi;have adh:=Kr hi;have Yd:=IC s hs i hi
 have hmz:(eZ s i).size<=2:=by
  unfold eZ;split
  ·decide
  ·split
   ·simp;omega
   ·decide
 obtain ⟨zi,Uv⟩:∃ zi:Int,zi=(i:Nat):=⟨_,rfl⟩;generalize bu ((tx s).drop i)=n at *;by_cases h0:n≠0
 ·rw [ah h0] at hR
  have bo:¬ s.extract i (i + n)=⟨#[]⟩:=fun h=>by
   have:=congrArg ByteArray.size h;simp at this;have h2:(ByteArray.mk #[]).size=0:=rfl;omega
  have di:(s.extract i (i + n)).size<=4611686018427387904:=by simp;omega
  have hrr:=fG (s.extract i (i + n)) di;rw [jh h0] at hrr;generalize s.extract i (i + n)=M at *;refine eG 103 [.cell 4 218,.cell 5 26] func244 rfl ntmps244 rfl fun _ _ _ _=>?_;refine cP uj ht ?_;refine br (fun _=>?_) (fun g=>absurd (show M=⟨#[]⟩ by simpa using g) bo);refine cP Ek hrr ?_;by_cases YE:n<=32
  ·rw [ah YE] at hR;subst hR;refine br (fun g=>absurd g (by simp [YE])) (fun _=>?_);exact ⟨_,ax,rfl⟩
  ·rw [ag YE] at hR;subst hR;refine br (fun _=>?_) (fun g=>absurd g (by simp;omega));exact ⟨_,ax,rfl⟩
 have h0:n=0:=by omega
 subst h0;rw [ag (by simp)] at hR;rw [jH] at ht;generalize eZ s i=M at *;by_cases hM:¬ M=⟨#[]⟩
 ·rw [ah hM] at hR;subst hR
  have hw:IntKind.i64.wrap ((i:Int) + M.size)=((i + M.size:Nat):Int):=by
   rw [wrap64 (by omega) (by omega)];omega
  have hX:=congrArg (fun z=>DV.v (Value.int .i64 z)) hw;refine eG 103 [.cell 4 218,.cell 5 26] func244 rfl ntmps244 rfl fun _ _ _ _=>?_;refine cP uj ht ?_;refine cP JQ hm ?_;refine br (fun _=>?_) (fun g=>absurd (show M=⟨#[]⟩ by simpa using g) hM);exact ⟨_,(by repeat' (first | exact rfl | exact trivial | exact Or.inr (Or.inl ⟨_,rfl⟩) | exact Or.inr ⟨_,rfl⟩ | exact Or.inl ⟨rfl,rfl⟩ | exact Or.inl rfl | refine Or.inr ⟨_,_,rfl,Nat.zero_le _,rfl,?_⟩ | refine ⟨_,_,rfl,?_,?_⟩ | refine ⟨_,rfl,?_⟩ | exact hX | refine Or.inr (Or.inr (Or.inr ⟨_,_,rfl,?_⟩)) | exact Or.inl rfl | refine Or.inr ?_)),rfl⟩
 rw [ag hM] at hR;have hM:M=⟨#[]⟩:=sU hM;subst hM;obtain ⟨z,hz⟩:∃ z:Int,z=((aA s i:Nat):Int):=⟨_,rfl⟩;have nV:((aA s (i:Int).toNat:Nat):Int)=z:=by rw [lD,hz]
 refine eG 103 [.cell 4 218,.cell 5 26] func244 rfl ntmps244 rfl fun _ _ _ _=>?_;refine cP uj ht ?_;refine cP JQ hm ?_;refine ⟨⟨by omega,by omega⟩,?_⟩;rw [nV];by_cases hd:aA s i=45∨(48<=aA s i/\aA s i<=57)
 ·rw [ah hd] at hR;refine br (fun _=>?_) (fun g=>?_)
  rotate_left
  ·grind [aD,aC]
  generalize takeN s i=Q at *;obtain ⟨Q1,Q2,Q3,Q4⟩:=Q;simp only at hR adg;refine cP VS gj ?_;by_cases hq:Q3=0
  ·have YS:=adg hq;injection YS with h3 h4
   rw [ah hq] at hR;subst hR h3 h4;refine cr [0,1] (fun _=>false) mo (by decide +kernel) ?_;exact ⟨_,ax,rfl⟩
  ·rw [ag hq] at hR;subst hR;refine br (fun _=>?_) (fun g=>absurd g (by simp [hq]));refine cr [0,1] (fun _=>false) mo (by decide +kernel) ?_;exact ⟨_,ax,rfl⟩
 rw [ag hd] at hR;refine br (fun g=>?_) (fun _=>?_)
 ·grind [aD,aC]
 by_cases YS:aA s i=34
 ·rw [ah YS] at hR;refine br (fun _=>?_) (fun g=>absurd (show z=34 by omega) (sU g));have huq:=huq YS;generalize nN (tx s) i=Q at *;obtain ⟨Q1,Q2,Q3,Q4⟩:=Q;simp only at hR adh;refine cP abo huq ?_;by_cases hq:Q3=0
  ·have YS:=(adh hq).1;injection YS with h3 h4
   rw [ah hq] at hR;subst hR h3 h4;refine cr [0,1] (fun _=>false) mo (by decide +kernel) ?_;exact ⟨_,ax,rfl⟩
  ·rw [ag hq] at hR;subst hR;refine br (fun _=>?_) (fun g=>absurd g (by simp [hq]));refine cr [0,1] (fun _=>false) mo (by decide +kernel) ?_;exact ⟨_,ax,rfl⟩
 rw [ag YS] at hR;subst hR;refine br (fun g=>?_) (fun _=>?_)
 ·exfalso;have:=of_decide_eq_true g;omega
 refine cP abp Yd ?_;exact ⟨_,ax,rfl⟩
def remU:Nat->List UInt8->Nat->Nat × Ft
 | 0,_,a=>(a,(0,0))
 | _ + 1,[],a=>(a,(0,0))
 | k + 1,c :: r,a=>if c.toNat=10 then (a,(0,0)) else if okU (c :: r)=false then (0,(2,(a:Int)))
  else if ¬ recV ((c :: r).take (jK (c :: r)))=9/\pD (recV ((c :: r).take (jK (c :: r))))=true then (0,(3,(a:Int))) else remU k ((c :: r).drop (jK (c :: r))) (a + jK (c :: r))
theorem tH:∀ (n:Nat) (l:List UInt8) (a:Nat),l.length<=n->remU n l a=remU l.length l a
 | 0,l,a,h=>by grind
 | n + 1,[],a,h=>rfl
 | n + 1,c :: r,a,h=>by
  have ih:=tH n;rw [List.length_cons] at h;have hu:=kU (l:=c :: r) (by simp);rw [List.length_cons] at hu ⊢;have ih2:=tH r.length
  grind [remU]
termination_by n=>n
abbrev FU (l:List UInt8) (a:Nat):=remU l.length l a
theorem MR (c:UInt8) (r:List UInt8) (a:Nat):FU (c :: r) a=if c.toNat=10 then (a,(0,0)) else if okU (c :: r)=false then (0,(2,(a:Int)))
  else if ¬ recV ((c :: r).take (jK (c :: r)))=9/\pD (recV ((c :: r).take (jK (c :: r))))=true then (0,(3,(a:Int))) else FU ((c :: r).drop (jK (c :: r))) (a + jK (c :: r)):=by
 have hu:=kU (l:=c :: r) (by simp);rw [List.length_cons] at hu;show remU (r.length + 1) (c :: r) a=_;rw [remU];split
 ·rfl
 split
 ·rfl
 split
 ·rfl
 ·grind [tH]
theorem Q8 (a:Nat):FU [] a=(a,(0,0)):=rfl
abbrev remD (p:Nat × Ft):DV:=.bK [.v (.int .i64 p.1),Ft.d p.2]
abbrev rmSt (s:ByteArray) (e:Nat):St:=⟨[(0,⟨[],.v (.string s)⟩),aJ 1 e,bq 5 0],[NX],[]⟩
theorem uH (s:ByteArray) (hs:s.size<=1099511627776) (i:Nat) (hi:i<=s.size):bA prog 243 [.v (.string s),.v (.int .i64 i)] (remD (FU ((tx s).drop i) i)):=by
 have nE:=bH s;obtain ⟨R,hR⟩:∃ R,R=FU ((tx s).drop i) i:=⟨_,rfl⟩;rw [<- hR];refine eG 45 [.tmp 4,.cell 5 26] func243 rfl ntmps243 rfl fun _ _ _ _=>?_;refine lI (fun j st=>∃ e:Nat,st=rmSt s e/\R=FU ((tx s).drop e) e/\e<=s.size/\j=s.size - e) ⟨i,rfl,hR,by omega,rfl⟩ (dg wB) ?_;rintro _ st ⟨e,rfl,gq,he,rfl⟩;refine br ?_ ?_<;>intro hL
 rotate_left
 ·have hge:e=s.size:=by simp at hL;omega
  rw [List.drop_eq_nil_of_le (by omega),Q8] at gq;subst gq;exact ⟨_,ax,rfl⟩
 have aE:e < s.size:=by simp at hL;omega
 obtain ⟨c,fx,hb⟩:=bJ aE;have fx:(tx s).drop e=c :: (tx s).drop (e + 1):=fx;have hu:=s6 s e hs c _ fx;have DB:=kU (l:=(tx s).drop e) (by rw [fx];simp);rw [List.length_drop,nE] at DB;have Us:(tx s).drop (e + jK ((tx s).drop e))=((tx s).drop e).drop (jK ((tx s).drop e)):=by rw [List.drop_drop]
 rw [fx,MR] at gq;rw [fx] at DB Us;have YT:jK (c :: (tx s).drop (e + 1))=if okU (c :: (tx s).drop (e + 1))=true then cq c.toNat else 1:=rfl
 generalize (tx s).drop (e + 1)=r at *;obtain ⟨z,hz⟩:∃ z:Int,z=((c.toNat:Nat):Int):=⟨_,rfl⟩;have nV:((aA s (e:Int).toNat:Nat):Int)=z:=by rw [lD,hb,hz]
 refine ⟨⟨by omega,by omega⟩,?_⟩;rw [nV];by_cases u9:c.toNat=10
 ·rw [ah u9] at gq;subst gq;refine br (fun g=>absurd g (by simp [pickB];omega)) (fun _=>?_);exact ⟨_,ax,rfl⟩
 rw [ag u9] at gq;refine br (fun _=>?_) (fun g=>absurd g (by simp [pickB];omega));generalize okU (c :: r)=ok at hu gq YT;generalize jK (c :: r)=N at *;refine eo OR rfl hu ax (fun q hq=>?_);obtain ⟨zr,nr,rfl,hn,hp⟩:=hq
 cases ok with
 | false=>
  rw [ah rfl] at gq;subst gq;exact ⟨_,ax,rfl⟩
 | true=>
  rw [ag (by simp)] at gq;rw [ah rfl] at YT;obtain ⟨uZ,Sv⟩:=hn rfl;rw [uZ,<- YT] at Sv;rw [<- Sv] at gq;have hnN:nr=N:=by omega
  subst hnN;have hw:IntKind.i64.wrap ((e:Int) + (nr:Nat))=((e + nr:Nat):Int):=by rw [wrap64 (by omega) (by omega)];omega
  by_cases h9:zr=9
  ·rw [ag (fun h=>h.1 h9),<- Us] at gq;refine br (fun g=>absurd h9 (sU g)) (fun _=>?_);exact rE ⟨_,by omega,e + nr,rfl,gq,by omega,rfl⟩ (dg (gv hw))
  refine br (fun _=>?_) (fun g=>absurd (sU g) h9);have hsf:=uF zr;generalize pD zr=bz at hsf gq;refine cP VR hsf ?_
  cases bz with
  | true=>
   rw [ah ⟨h9,rfl⟩] at gq;subst gq;exact ⟨_,ax,rfl⟩
  | false=>
   rw [ag (fun h=>by simpa using h.2),<- Us] at gq;exact rE ⟨_,by omega,e + nr,rfl,gq,by omega,rfl⟩ (dg (gv hw))
inductive mf (s:ByteArray):Nat->List dD->Ft->Prop
 | nil:mf s s.size [] (0,0)
 | blank {i:Nat} {l:List dD} {f:Ft}:i < s.size->ju (aA s i)=true->mf s (i + 1) l f->mf s i l f
 | rem {i e:Nat} {l:List dD} {f:Ft}:i < s.size->aA s i=59->FU ((tx s).drop i) i=(e,(0,0))->i < e->e<=s.size->mf s e l f->mf s i l f
 | YU {i e:Nat} {f:Ft}:i < s.size->aA s i=59->FU ((tx s).drop i) i=(e,f)->¬ f.1=0->mf s i [] f
 | tok {i e:Nat} {t:dD} {l:List dD} {f:Ft}:i < s.size->ju (aA s i)=false->aA s i≠59->oB s i=(t,(0,0))->t.e=e->i < e->e<=s.size->mf s e l f->mf s i (t :: l) f
 | YV {i:Nat} {t:dD} {f:Ft}:i < s.size->ju (aA s i)=false->aA s i≠59->oB s i=(t,f)->¬ f.1=0->mf s i [] f
theorem YW {s:ByteArray} {i:Nat} {t:dD} (hi:i < s.size) (h:oB s i=(t,(0,0))):∃ e:Nat,t.e=e/\i < e/\e<=s.size/\¬ t.k=0:=by
 unfold oB at h;have kR:=kk ((tx s).drop i);rw [List.length_drop,bH] at kR;by_cases h1:bu ((tx s).drop i)≠0
 ·grind
 rw [ag h1] at h;by_cases h2:¬ eZ s i=⟨#[]⟩
 ·rw [ah h2] at h;injection h with h3 _
  rw [<- h3]
  have hms:1<=(eZ s i).size/\i + (eZ s i).size<=s.size:=by
   have h0:(eZ s i).size≠0:=fun h=>h2 (by
    apply ByteArray.ext
    exact Array.eq_empty_of_size_eq_zero h)
   unfold eZ at h0 ⊢;by_cases hh:xm (s.extract i s.size) pH=true
   ·rw [ah hh];unfold xm at hh;rw [bg,decide_eq_true_iff] at hh;have h5:=hh.1;have h6:(s.extract i s.size).size=s.size - i:=by simp
    have h7:pH.size=2:=rfl;omega
   ·rw [ag hh] at h0 ⊢;by_cases h8:0<=Lib.indexByte (tx lm) (aA s i).toUInt8
    ·rw [ah h8];have h6:(s.extract i (i + 1)).size=1:=by simp;omega
     omega
    ·rw [ag h8] at h0;exact absurd rfl h0
  exact ⟨_,rfl,by omega,by omega,by show ¬ (4:Int)=0;decide⟩
 rw [ag h2] at h;by_cases h3:aA s i=45∨(48<=aA s i/\aA s i<=57)
 ·rw [ah h3] at h;by_cases h4:(takeN s i).2.2.1=0
  ·rw [ah h4] at h;injection h with h5 _
   rw [<- h5];obtain ⟨c,fx,hb⟩:=bJ hi
   have Xw:(tx s)[i]? = some c:=by
    have:=congrArg List.head? fx
    rwa [List.head?_drop,List.head?_cons] at this
   have ha:(if c.toNat=45 then i + 1 else i)<=s.size:=by split<;>omega
   have hai:i<=(if c.toNat=45 then i + 1 else i):=by split<;>omega
   rw [oA Xw] at h4 ⊢;generalize (if c.toNat=45 then i + 1 else i)=a at h4 ha hai ⊢;have qM:=rV ((tx s).drop a);rw [List.length_drop,bH] at qM;unfold vo at h4 ⊢;by_cases q1:digN ((tx s).drop a)=0/\a=s.size
   ·rw [ah q1] at h4;simp at h4
   rw [ag q1] at h4 ⊢;by_cases q2:digN ((tx s).drop a)=0
   ·rw [ah q2] at h4;simp at h4
   rw [ag q2] at h4 ⊢;by_cases q3:((tx s)[a]?).map UInt8.toNat=some 48/\(1 < digN ((tx s).drop a)∨(decide (c.toNat=45))=true)
   ·rw [ah q3] at h4;simp at h4
   rw [ag q3] at h4 ⊢;by_cases q4:(im (((tx s).drop a).take (digN ((tx s).drop a))) (decide (c.toNat=45))).2=true
   ·rw [ah q4];exact ⟨_,rfl,by omega,by omega,by show ¬ (2:Int)=0;decide⟩
   ·rw [ag q4] at h4;simp at h4
  all_goals grind
 grind [aA,nN,tx,Kr]
theorem ak {X:Ctx} {st:St} {k:List It} {f d:Nat} {args bF:List DV} {os os2:List (List DV)} {r:DV} (n:Nat) (gh:Enters X.P f) (hc:Ev X.P f bF os [] (fun r' eO cA=>r'=r/\eO=os2/\cA=[])) (hk:go X 4000 k ⟨(d,⟨[],r⟩) :: st.sl,os2 ++ st.bx.drop n,st.tk⟩) (hd:eV X.nt st.sl (some d)=true:=by exact rfl) (uZ:Nat.ble n st.bx.length=true:=by exact rfl)
  (qZ:kZ [] n n 0 os (st.bx.take n):=by repeat' (first | exact rfl | exact trivial | exact Or.inr (Or.inl ⟨_,rfl⟩) | exact Or.inr ⟨_,rfl⟩ | exact Or.inl ⟨rfl,rfl⟩ | exact Or.inl rfl | refine Or.inr ⟨_,_,rfl,Nat.zero_le _,rfl,?_⟩ | exact ⟨nL rfl,rfl⟩ | refine ⟨_,_,rfl,?_,?_⟩ | refine ⟨_,rfl,?_⟩ | refine Or.inr (Or.inr (Or.inr ⟨_,_,rfl,?_⟩)) | exact Or.inl rfl | refine Or.inr ?_)) (ha:CcL [] n n 0 bF args:=by repeat' (first | exact rfl | exact trivial | exact Or.inr (Or.inl ⟨_,rfl⟩) | exact Or.inr ⟨_,rfl⟩ | exact Or.inl ⟨rfl,rfl⟩ | exact Or.inl rfl | refine Or.inr ⟨_,_,rfl,Nat.zero_le _,rfl,?_⟩ | exact ⟨nL rfl,rfl⟩ | refine ⟨_,_,rfl,?_,?_⟩ | refine ⟨_,rfl,?_⟩ | refine Or.inr (Or.inr (Or.inr ⟨_,_,rfl,?_⟩)) | exact Or.inl rfl | refine Or.inr ?_)) (bp:X.still=false:=by exact rfl) (hX:X.bt=[]:=by exact rfl):CallG X f args (some d) k st:=
 fw n 0 gh hd uZ rfl qZ ha hc (fun r' eO cA hΦ _ _=>by obtain ⟨rfl,rfl,rfl⟩:=hΦ;exact hk) bp hX
abbrev jX (r:DV) (c:au) (r':DV) (os:List (List DV)) (tk:List TkE):Prop:=r'=r/\os=[aH c]/\tk=[]
theorem av.get {c:au} (h:av c) (h0:c.f.1=0):(gp c.l)[c.p]? = some (vn c.aF):=by
 obtain ⟨t,h1,h2⟩:=h.aF h0;rw [h2];exact MM h1
theorem dL (c:au) (h:av c):Ev prog 139 [.loc 0 0] [aH c] [] (jX (.agg (vn c.aF)) c):=by
 have hg:=h.get;have YX:c.f.1≠0->c.aF=gR c.f.2:=fun h=>by rw [au.aF,ag h]
 have aE:c.p < (gp c.l).length:=by rw [dK];exact h.lt
 generalize c.aF=t at hg YX ⊢;obtain ⟨l,p,d,f1,f2⟩:=c;obtain ⟨k,a,e,s,n⟩:=t;simp only at hg YX aE;refine eG 35 [.cell 2 218] func139 rfl ntmps139 rfl fun _ _ _ _=>?_;refine br ?_ ?_<;>intro g
 ·have g:¬ f1=0:=sU g;obtain ⟨rfl,rfl,rfl,rfl,rfl⟩:=dD.mk.inj (YX g);refine dS ?_;exact ⟨.agg _,[aH _],bB,bB,rfl,rfl,rfl⟩
 ·have g:f1=0:=sU g;refine dS ?_;refine iX (hg g) ?_;exact ⟨.agg _,[aH _],bB,bB,rfl,rfl,rfl⟩
theorem nj (c:au):Ev prog 138 [.loc 0 0] [aH c] [] (jX c.f.d c):=by
 obtain ⟨l,p,d,f1,f2⟩:=c;refine eG 10 [.cell 2 26] func138 rfl ntmps138 rfl fun _ _ _ _=>?_;exact ⟨.agg _,[aH _],bB,bB,rfl,rfl,rfl⟩
theorem Bd (c:au) (h:av c):Ev prog 284 [.loc 0 0] [aH c] [] (jX (.bK []) c.step):=by
 have hp:=dL c h;have hs:c.step=if c.aF.k=0 then c else { c with p:=c.p + 1 }:=rfl
 have hb:c.p < 274877906944:=Nat.lt_of_lt_of_le h.lt h.len;generalize c.step=C at hs ⊢;generalize c.aF=t at hp hs;obtain ⟨l,p,d,f1,f2⟩:=c;obtain ⟨k,a,e,s,n⟩:=t;simp only at hb hs;refine eG 13 [] func284 rfl ntmps284 rfl fun _ _ _ _=>?_;refine ak 1 iw hp ?_;refine br ?_ ?_<;>intro g
 ·have g:¬ k=0:=sU g;rw [ag g] at hs;rw [hs]
  have hw:IntKind.i64.wrap ((p:Int) + 1)=((p + 1:Nat):Int):=by
   rw [wrap64 (by omega) (by omega)];omega
  have hX:=congrArg (fun z=>DV.v (Value.int .i64 z)) hw;exact ⟨.bK [],[aH _],(by repeat' (first | exact rfl | exact trivial | exact Or.inr (Or.inl ⟨_,rfl⟩) | exact Or.inr ⟨_,rfl⟩ | exact Or.inl ⟨rfl,rfl⟩ | exact Or.inl rfl | refine Or.inr ⟨_,_,rfl,Nat.zero_le _,rfl,?_⟩ | refine ⟨_,_,rfl,?_,?_⟩ | refine ⟨_,rfl,?_⟩ | exact hX | exact ⟨nL rfl,rfl⟩ | refine Or.inr (Or.inr (Or.inr ⟨_,_,rfl,?_⟩)) | exact Or.inl rfl | refine Or.inr ?_)),(by repeat' (first | exact rfl | exact trivial | exact Or.inr (Or.inl ⟨_,rfl⟩) | exact Or.inr ⟨_,rfl⟩ | exact Or.inl ⟨rfl,rfl⟩ | exact Or.inl rfl | refine Or.inr ⟨_,_,rfl,Nat.zero_le _,rfl,?_⟩ | refine ⟨_,_,rfl,?_,?_⟩ | refine ⟨_,rfl,?_⟩ | exact hX | exact ⟨nL rfl,rfl⟩ | refine Or.inr (Or.inr (Or.inr ⟨_,_,rfl,?_⟩)) | exact Or.inl rfl | refine Or.inr ?_)),rfl,rfl,rfl⟩
 ·have g:k=0:=sU g;rw [ah g] at hs;rw [hs];exact ⟨.bK [],[aH _],bB,bB,rfl,rfl,rfl⟩
end Go.Proofs.YtfdedoiiahbnnaaGreat
