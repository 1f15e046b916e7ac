/- Part 5 of the proof: Steps of a region that draws its order, one by one; What resolve.Build says of a schema; lattices in which nothing is wrong; resolve.Build; Reading a plan: Len, Root, Lattice, Node, Find; slices.Clone; of no plan as well; The reference of chapter 17: Great, Same; The program's comparing of schemas; The law's example: a type that leads to itself; The law of no plan: the call returns true; The document's relations: Leads; The document's lattices: Find, pairs, Leq, Loop; The document's lattices: what is wrong; The document's labels: over, Least, Of; The document's schemas: Find, word, all, Flat, End, Start; The document's schemas: Flat, End, Start; The document's schemas: named, unknown; The reference's Wrong returns what is wrong with a type; The document's schemas: what is wrong; The document's nodes: Same, of equal ones; the law's node; The document's nodes: node; The document's plan: Build; What is known of a type with which nothing is wrong; labels have levels; What is known of the nodes of a plan; A plan, as its readers know it; Values, plain; how many are in one, how deep they lie; Values that are the same; Which values fit which nodes: plain, as the program finds it and as the document says it; tree's leaf, kids, Fits; tree.Fits; the document's To, Fits; Values as they are written: plain; tree.write, Raw; Paths: data, Step compared with itself; ref09.Begins, Same on the same path; ref25.Step; A lattice, as its readers know it; Leq; joins are the document's; Where steps lead in a plan, and how places are seen, plain; What is seen of values, and where that differs, plain; A text's first units: the document's Head, the program's heads, floors; Whole numbers in texts: the program's Take of a number that there is. No condition. -/
import Derived.Test.YtfdedoiiahbnnaaGreatNd3
import Derived.Test.YtfdedoiiahbnnaaGreatNd4
set_option linter.all false
namespace Go.Proofs.YtfdedoiiahbnnaaGreat
namespace Dv
open Go Go.RowKit
section
variable {X:Ctx} {st:St} {k:List It} {E:En} {a:Act} {w:World} {ops:Array Oper} {W:Nat->Bool} {C:World->Prop} {Q:Act->World->Prop} {i:Nat} {r:List Nat} {o:Oper}
theorem dD (hg:o.guard=none):Region.wanted o (yielded ops a.tmps)=true:=by
 unfold Region.wanted;rw [hg]
theorem FG {bx:List (List DV)} {wr:World} (h:Rel X E st a w) (hE:yd E bx wr) (hC:∀ w',C w' -> CC E bx wr w'):Rl E bx C st.sl a where
 tm:=h.tm
 eQ:=fun i cs hi=>by
  by_cases bF:cs=[]
  ·subst bF;have az:i < E.β.length:=by rw [hE.len];exact (gS hi).1
   exact ⟨_,[],gE az,⟨cW _,by simp⟩,fun w' _ j u hj=>by simp at hj⟩
  ·obtain ⟨b,ty,arr,hb,hw,hc⟩:=hE.eQ i cs hi bF;exact ⟨b,arr,hb,hc,fun w' h' j u hj=>by rw [cO (((hC w' h').o i b cs hb hi bF).trans hw)];simpa using hj⟩
 cc:=fun x v hx w' h'=>(hC w' h').c x v hx
theorem NF {bx:List (List DV)} (h:Env E bx w) (m:List Nat):yd E (maskL m 0 bx) w:=⟨by rw [vE];exact h.len,fun i cs hi bF=>by
 rcases vF m _ _ _ _ hi with h1 | h1
 ·exact (bF h1).elim
 ·exact h.eQ i cs h1⟩
theorem oG (hR:Rel X E st a w) (ho:ops[i]? = some o) (hE:isE o.op=false) (hL:isL o.op=false) (hg:o.guard=none) {s:DV} (hs:pureT X.P X.T ⟨st.sl,[],[]⟩ [] o.op=some s) (hd:fU X.nt st.sl o.dst=true)
  (hk:∀ a',Rel X E (st.put o.dst ⟨[],s⟩) a' w->runT X.P ops W C Q r a' w):runT X.P ops W C Q (i :: r) a w:=by
 have gW:Rl E [] (fun _=>False) st.sl a:=⟨hR.tm,fun i cs hi=>by simp at hi,fun _ _ _ _ h=>h.elim⟩;obtain ⟨v,hv,bV⟩:=gv (st:=⟨st.sl,[],[]⟩) X.hT gW (bi _) hs;simp only [runT,ho,hE,Bool.false_eq_true,if_false];exact ⟨v,.inl ⟨dD hg,fun w' _=>bV w' fun h=>by rw [hL] at h;cases h⟩,fun h=>(by rw [hL] at h;cases h),hk _ (bu hR hd s v hv)⟩
theorem W7 (hR:Rel X E st a w) (ho:ops[i]? = some o) {bx:List (List DV)} (gW:Rl E bx C st.sl a) (hCw:C w) (hE:isE o.op=false) (hg:o.guard=none) {s:DV} (hs:pureT X.P X.T ⟨st.sl,bx,[]⟩ [] o.op=some s) (hd:fU X.nt st.sl o.dst=true)
  (hk:∀ a',Rel X E (st.put o.dst ⟨[],s⟩) a' w->runT X.P ops W C Q r a' w):runT X.P ops W C Q (i :: r) a w:=by
 obtain ⟨v,hv,bV⟩:=gv (st:=⟨st.sl,bx,[]⟩) X.hT gW (bi _) hs;simp only [runT,ho,hE,Bool.false_eq_true,if_false];exact ⟨v,.inl ⟨dD hg,fun w' h=>bV w' h⟩,fun _=>hCw,hk _ (bu hR hd s v hv)⟩
theorem W8 (hR:Rel X E st a w) (ho:ops[i]? = some o) {t x d:Nat} {b p j:Nat} {n:Nat} {kd:TK} {z:List Value} (hb:E.β[j]? = some b) (hop:o.op = .load t (.tmp x)) (lr:o.dst=some d) {i2 KW b2:Nat} (iI:E.β[i2]? = some b2) (hx:rv st [] (.tmp x)=some (.loc i2 p)) (hT:X.T.find t=some ⟨n,false,kd,z⟩)
  (hC:∀ w',C w' -> w'.cell? ⟨b2,p,none⟩=some (.pointer (some ⟨b,KW,none⟩))) (hCw:C w) (hg:o.guard=none) (hd:fU X.nt st.sl (some d)=true)
  (hk:∀ a',Rel X E ⟨(d,⟨[],.loc j KW⟩) :: st.sl,st.bx,st.tk⟩ a' w->runT X.P ops W C Q r a' w):runT X.P ops W C Q (i :: r) a w:=by
 have hE:isE o.op=false:=by rw [hop];all_goals rfl
 simp only [runT,ho,hE,Bool.false_eq_true,if_false];have hv:Rv E (.loc j KW) (.pointer (some ⟨b,KW,none⟩)):=by unfold Rv;exact ⟨b,hb,rfl⟩
 refine ⟨.pointer (some ⟨b,KW,none⟩),.inl ⟨dD hg,fun w' h=>?_⟩,fun _=>hCw,?_⟩
 ·have hC':=hC w' (h (by rw [hop];rfl));have e1:=bm hR.rl hx;unfold Rv at e1;obtain ⟨b3,MD,e1⟩:=e1;rw [iI] at MD;simp only [oI] at MD;subst MD;have VT:=(te_parts X.hT hT).2.1
  have hl:(loadVar t ⟨b2,p,none⟩).run X.P w' = .ok (.pointer (some ⟨b,KW,none⟩)) w':=by
   simp [loadVar,kZ VT,hC']
  simp only [execOp,hop,e1,Sem.run_bind,Instr.loadAt,Instr.sureAddr,Sem.run_pure,Result.andThen_ok,hl]
 ·rw [lr];exact hk _ (bu hR hd (.loc j KW) _ hv)
theorem PG (hR:Rel X E st a w) (ho:ops[i]? = some o) {dst:Option Nat} {f:Operand} {args:Array Operand} {W9:Array TypeId} (hop:o.op = .call ⟨.value f,args,W9⟩) (lr:o.dst=dst) (hg:o.guard=none) {g:FuncId} {ds:List DV} (hf:rv st [] f=some (.fn g [] [])) (hl:argsV st [] args.toList=some ds) (gY:Enters X.P g)
  {K:Value->World->Prop} (hc:∀ vs,RvL E ds vs->Calls X.P g vs.toArray w fun e w'=>∃ v,e = .returned v/\K v w') (hk:∀ v w',K v w' -> (W i=false->C w->C w')/\runT X.P ops W C Q r (a.put dst v) w'):runT X.P ops W C Q (i :: r) a w:=by
 have hE:isE o.op=true:=by rw [hop];all_goals rfl
 have VE:=dD (ops:=ops) (a:=a) hg;have gW:=hR.rl;have e1:=bm gW hf;unfold Rv at e1;obtain ⟨l1,r1,e1,jr,hr1⟩:=e1;simp only [RvL] at jr hr1;subst jr hr1;have hargs:=ik gW (bi _) _ _ hl;simp only [runT,ho,hE,if_true,ep,VE];subst lr;obtain ⟨dst,op,ty,pos,after,gu⟩:=o;simp only at hop;subst hop
 have hr:(execOp a.eval ⟨dst,.call ⟨.value f,args,W9⟩,ty,pos,after,gu⟩).run X.P w = .ok (.enter g (args.toList.map a.eval).toArray) w:=by
  have e3:(([]:List Value).toArray ++ args.map a.eval ++ ([]:List Value).toArray)=(args.toList.map a.eval).toArray:=by apply Array.ext';simp
  simp only [execOp,resolve,e1,Deferred.ofValue,Sem.run_bind,Sem.run_pure,Result.andThen_ok,invoke,e3];exact gY _ _
 unfold wq;rw [hr];refine (hc _ hargs).mono ?_;rintro e w' ⟨v,rfl,hK⟩;exact ⟨v,rfl,hk v w' hK⟩
theorem Xa (hR:Rel X E st a w) (ho:ops[i]? = some o) {dst:Option Nat} {f:Operand} {args:Array Operand} {W9:Array TypeId} (hop:o.op = .call ⟨.value f,args,W9⟩) (lr:o.dst=dst) (hg:o.guard=none) {g:FuncId} {ds ds':List DV} (hf:rv st [] f=some (.fn g [] [])) (hl:argsV st [] args.toList=some ds) (gY:Enters X.P g)
  {os:List (List DV)} (n1 m1:Nat) (BM:Nat.ble n1 st.bx.length=true) (kO:Nat.ble m1 st.tk.length=true) (rT:mU [] n1 n1 m1 os (st.bx.take n1)) (ha:CcL [] n1 n1 m1 ds' ds)
  {Φ:DV->List (List DV)->List TkE->Prop} (hc:Ev X.P g ds' os (st.tk.take m1) Φ) (hst:X.still=false) (hX:X.bt=[])
  (hk:∀ v r' Zj Zi E' w',Φ r' Zj Zi -> Zj.length=n1->Zi.length=m1->Rel X E' ⟨st.sl,Zj ++ st.bx.drop n1,Zi ++ st.tk.drop m1⟩ a w' -> Rv E' r' v->Ext E E' -> E'.β=E.β->(∀ (i:Nat) b,n1<=i->E.β[i]? = some b->w'.heap[b]? = w.heap[b]?) ->
   (W i=false->C w->C w')/\runT X.P ops W C Q r (a.put dst v) w'):runT X.P ops W C Q (i :: r) a w:=by
 refine PG hR ho hop lr hg hf hl gY (K:=fun v w'=>∃ r' Zj Zi E',Φ r' Zj Zi /\ Zj.length=n1/\Zi.length=m1/\Rel X E' ⟨st.sl,Zj ++ st.bx.drop n1,Zi ++ st.tk.drop m1⟩ a w' /\ Rv E' r' v/\Ext E E' /\ E'.β=E.β/\∀ (i:Nat) b,n1<=i->E.β[i]? = some b->w'.heap[b]? = w.heap[b]?)
  (fun vs hv=>?_) ?_
 ·refine (uf n1 m1 BM kO rT ha hc hst hX hR hv).mono ?_
  grind
 ·grind
theorem Xb (h:Rel X E st a w) (j o k:Nat) {n ty e:Nat} {ocs:List DV} {es ns:List (List DV)} (hq:st.tk[k]? = some ⟨n,ty,e,some ns.flatten⟩) (GB:∀ x∈ns,x.length=e) (ir:ns.length=n) (hj:st.bx[j]? = some ocs) (ho:ocs[o]? = some (.sl 0 es (some k))) (tG:es.length=n) :
  ∃ E',Rel X E' ⟨st.sl,st.bx.set j (ocs.set o (.sl e ns none)),st.tk.set k ⟨n,ty,e,none⟩⟩ a w:=Ti hq GB ir hj ho tG E a w h
theorem PH (hR:Rel X E st a w) (ho:ops[i]? = some o) (hE:isE o.op=true) (hg:o.guard=none) (hW:W i=true) (hd:fU X.nt st.sl o.dst=true) {p:Prop} (hp:effC X st o (go X 4000 k)=some p) (h:p):runT X.P ops W C (fun a w=>kq X k .normal a w) [i] a w:=by
 have VE:=dD (ops:=ops) (a:=a) hg;simp only [runT,ho,hE,if_true,ep,VE];refine kA ?_ (lj hd hR hp h);rintro a' w' ⟨st',E',vv,hr,_⟩;exact ⟨(fun h=>by rw [hW] at h;cases h),go_sound 4000 _ _ vv _ _ _ hr⟩
mutual
theorem wm {i j:Nat}:∀ d:DV,renD (swp i j) (renD (swp i j) d)=d
 | .v x=>rfl
 | .ud=>rfl
 | .agg l=>by simp only [renD,kS]
 | .bo l=>by simp only [renD,kS]
 | .sl e es tk=>rfl
 | .pt cs o=>rfl
 | .loc k o=>by simp only [renD,oo]
 | .el k o=>by simp only [renD,oo]
 | .ms k e o l c=>by simp only [renD,oo]
 | .fn g l r=>by simp only [renD,kS]
 | .rR t x=>by simp only [renD,wm]
theorem kS {i j:Nat}:∀ l:List DV,renL (swp i j) (renL (swp i j) l)=l
 | []=>rfl
 | d :: r=>by simp only [renL,wm,kS]
end
theorem DB {i j:Nat}:∀ l:List (Nat × Sl),renS (swp i j) (renS (swp i j) l)=l
 | []=>rfl
 | (k,⟨gs,s⟩) :: r=>by simp only [renS,wm,DB]
theorem DC {i j:Nat}:∀ l:List (List DV),renO (swp i j) (renO (swp i j) l)=l
 | []=>rfl
 | c :: r=>by simp only [renO,kS,DC]
theorem TB {i j:Nat} (f:Nat->Nat) (l:List (List DV)) (hi:i < l.length) (hj:j < l.length):renO f (swL i j l)=swL i j (renO f l):=by
 apply List.ext_getElem?
 grind [zD,ic,fo]
theorem Ie {i j:Nat} {S:St} (hi:i < S.bx.length) (hj:j < S.bx.length):gx i j (gx i j S)=S:=by
 obtain ⟨sl,bx,tk⟩:=S;simp only [gx,DB];rw [TB _ _ (by rw [fo];exact hi) (by rw [fo];exact hj),DC];congr 1;apply List.ext_getElem?
 grind [ic,gy,oo]
theorem CallG.KX {f:FuncId} {args:List DV} {dst:Option Nat} (i j:Nat) (Rm:Nat.ble X.n0 i=true) (G0:Nat.ble X.n0 j=true) (hi:Nat.blt i st.bx.length=true) (hj:Nat.blt j st.bx.length=true)
  (h:CallG X f (renL (swp i j) args) dst k (gx i j st)) (hX:X.bt=[]:=by exact rfl):CallG X f args dst k st:=by
 have o0:=hi;have ku:=hj;simp only [Nat.blt_eq] at o0 ku;have hl:(gx i j st).bx.length=st.bx.length:=by simp only [gx,gy,fo]
 exact CallG.Kh i j (Ie o0 ku).symm (kS args).symm Rm G0 (by rw [hl];exact hi) (by rw [hl];exact hj) h hX
theorem KY {P:Program} {t e:TypeId} (hu:P.underlying t=some (.slice e)) (d:Nat) (x:Option Addr) (n c:Nat) (w:World):(Op.equalIn (d + 1) t (.slice x n c) (.slice none 0 0)).run P w = .ok x.isNone w:=by
 cases x<;>simp [Op.equalIn,run_underlying hu]
theorem TC {P:Program} {t e:TypeId} (hu:P.underlying t=some (.slice e)) (x:Option Addr) (n c:Nat) (w:World):(Op.equal t (.slice x n c) (.slice none 0 0)).run P w = .ok x.isNone w:=KY hu 9999 x n c w
theorem TD {t d e:Nat} {x:Operand} {es:List (List DV)} {tk:Option Nat} {n et e' kL:Nat} {bb:Bool} {z:List Value} (hop:∃ t',o.op = .binOp .eql t x (.const (.slice none 0 0)) t') (lr:o.dst=some d) (hx:rv st [] x=some (.sl e es tk)) (hT:X.T.find t=some ⟨n,bb,.sl et e' kL,z⟩) (hd:fU X.nt st.sl (some d)=true)
  (hk:∀ b:Bool,(es ≠ []->b=false)->go X 4000 k ⟨(d,⟨[],.v (.bool b)⟩) :: st.sl,st.bx,st.tk⟩):Rf X o k st:=by
 intro E a w h;obtain ⟨t',hop⟩:=hop;have e1:=bm h.rl hx;unfold Rv at e1;obtain ⟨b,m,cap,e1,⟨rfl,_⟩,hr,_⟩:=e1;obtain ⟨hu,_⟩:=fV X.hT hT;have aQ:=TC hu b es.length cap w
 have bV:(execOp a.eval o).run X.P w = .ok (.value (.bool b.isNone)) w:=by
  have hc:a.eval (.const (.slice none 0 0)) = .slice none 0 0:=rfl;simp [execOp,hop,e1,hc,eqGuard,binOp,aQ]
 refine mZ bV ?_;rw [lr];refine go_sound 4000 _ _ (hk b.isNone fun bF=>?_) E _ w (bu h hd (.v (.bool b.isNone)) _ (by unfold Rv;exact ⟨rfl,rfl⟩));have:=rU (hr bF).1;rw [this];rfl
theorem agj {t d et e kL n:Nat} {bb:Bool} {z:List Value} (hop:o.op = .buildSlice t 0 #[]) (lr:o.dst=some d) (hT:X.T.find t=some ⟨n,bb,.sl et e kL,z⟩) (hd:fU X.nt st.sl (some d)=true) (hst:X.still=false:=by exact rfl) (hX:X.bt=[]:=by exact rfl) :
  OpS X o st ⟨(d,⟨[],.sl e [] (some st.tk.length)⟩) :: st.sl,st.bx,st.tk ++ [⟨0,et,e,none⟩]⟩:=by
 intro E a w h;obtain ⟨hu,ii,zv,zd,hz,cK,BL,OC⟩:=fV X.hT hT;have pk:jF X.P et=some e:=by rw [gH zd,cK]
 have bV:(execOp a.eval o).run X.P w = .ok (.value (.slice (some ⟨w.heap.size,0,none⟩) 0 0)) (w.alloc (.cells #[] et)):=by
  have h1:(Instr.buildSlice t 0 #[]).run X.P w = .ok (.slice (some ⟨w.heap.size,0,none⟩) 0 0) (w.alloc (.cells #[] et)):=by
   have h0:Array.range 0 = #[]:=rfl;simp [Instr.buildSlice,run_underlying hu,aX pk,Instr.fill,newRow,h0]
  simp only [execOp,hop,List.map_toArray,List.map_nil,Sem.run_bind,h1,Result.andThen_ok,Sem.run_pure]
 refine eV bV ?_;rw [lr];have lX:=h.env.iU (w':=w.alloc (.cells #[] et)) fun i hi=>alloc_old w _ hi
 let E2:En:=⟨E.c,E.β,E.tk ++ [⟨0,et,e,none⟩],E.τ ++ [.slice (some ⟨w.heap.size,0,none⟩) 0 0]⟩
 have hext:Ext E E2:=⟨fun _ _ h=>h,fun _ _ h=>h,fun k q' hk=>by
  have az:=(gS hk).1;refine ⟨q',by show (E.tk ++ _)[k]? = _;rw [eT az];exact hk,.inl ⟨rfl,?_⟩⟩;show (E.τ ++ _)[k]? = _
  rw [eT (by rw [h.env.tl];exact az)]⟩
 have hτ:∀ (k:Nat) y,E2.τ[k]? = some y->(k < E.τ.length/\E.τ[k]? = some y)∨(k=E.τ.length/\y = .slice (some ⟨w.heap.size,0,none⟩) 0 0):=fun k y hy=>by grind
 have dW:∀ (k:Nat) y g,E.τ[k]? = some y->y.ownBlock=some g->g < w.heap.size:=fun k y g hy hg=>(h.env.own (mG hy) hg).1
 have cg:Rel X E2 ⟨st.sl,st.bx,st.tk ++ [⟨0,et,e,none⟩]⟩ a (w.alloc (.cells #[] et)):=by
  refine dF h hext ?_ (by show E.tk ++ _=_;rw [h.tk]) ?_ (h.fr.alloc _) (pj hst) (.nil hX)
  ·exact {
    len:=h.env.len
    tl:=by show (E.τ ++ _).length=(E.tk ++ _).length;simp [h.env.tl]
    eQ:=fun i cs hi=>by
     obtain ⟨b,t,arr,hb,hw,hc⟩:=lX.eQ i cs hi;exact ⟨b,t,arr,hb,hw,hc.mono hext⟩
    inj:=h.env.inj
    sub:=lX.sub
    pc:=h.env.pc
    dh:=fun k q' y hkq hy=>by
     rcases hτ k y hy with ⟨az,jw⟩ | ⟨rfl,rfl⟩
     ·have iH:(E.tk ++ [⟨0,et,e,none⟩])[k]? = some q':=hkq;rw [eT (by rw [<- h.env.tl];exact az)] at iH;exact lX.dh k q' y iH jw
     ·have iH:(E.tk ++ [⟨0,et,e,none⟩])[E.τ.length]? = some q':=hkq;rw [List.getElem?_append_right (by rw [h.env.tl];exact zLeR _),h.env.tl] at iH;simp only [Nat.sub_self,List.getElem?_cons_zero,oI] at iH;subst iH;refine .inr ⟨w.heap.size,0,#[],rfl,iF w _,⟨by simp,tq.none rfl⟩,zLeR _,Nat.zero_le _,fun hm=>?_,fun x v hx JH=>?_⟩
      ·have:=h.env.bw hm;omega
      ·have:=World.block_lt_of_cell? w x (h.env.sub x v hx);omega
    jY:=fun k k' y y' g BN hy jw hg za=>by
     rcases hτ k y hy with ⟨_,BU⟩ | ⟨rfl,rfl⟩
     ·rcases hτ k' y' jw with ⟨_,og⟩ | ⟨rfl,rfl⟩
      ·exact h.env.jY k k' y y' g BN BU og hg za
      ·have:=dW k y g BU hg;simp only [Value.ownBlock,oI] at za;omega
     ·rcases hτ k' y' jw with ⟨_,og⟩ | ⟨rfl,rfl⟩
      ·have:=dW k' y' g og za;simp only [Value.ownBlock,oI] at hg;omega
      ·exact BN rfl }
  ·exact {
    c:=h.nw.c
    cn:=h.nw.cn
    β:=h.nw.β
    tk:=fun j q0 y0 vq J0=>by
     obtain ⟨q',y',h1,h2,h3⟩:=h.nw.tk j q0 y0 vq J0
     grind
    tn:=fun j y g hj hy hg=>by
     rcases hτ j y hy with ⟨_,BU⟩ | ⟨_,rfl⟩
     ·exact h.nw.tn j y g hj BU hg
     ·simp only [Value.ownBlock,oI] at hg;have:=h.fr.size;omega
    l0:=h.nw.l0 }
 refine ⟨E2,bu cg hd (.sl e [] (some st.tk.length)) _ ?_,hext,⟨[],by simp [E2]⟩,fun i b hb _=>alloc_old w _ (h.env.bw (mG hb))⟩;unfold Rv;refine ⟨_,0,0,rfl,⟨rfl,zLeR _⟩,fun hn=>(hn rfl).elim,fun k' iH=>?_⟩;cases iH;refine ⟨⟨0,et,e,none⟩,?_,zLeR _,fun _=>?_⟩
 ·show (E.tk ++ _)[st.tk.length]? = _;rw [h.tk];simp
 ·show (E.τ ++ _)[st.tk.length]? = _;rw [<- h.tk,<- h.env.tl];simp
theorem Ig {t d et e kL n:Nat} {bb:Bool} {z:List Value} (hop:o.op = .buildSlice t 0 #[]) (lr:o.dst=some d) (hT:X.T.find t=some ⟨n,bb,.sl et e kL,z⟩) (hd:fU X.nt st.sl (some d)=true) (hst:X.still=false:=by exact rfl) (hX:X.bt=[]:=by exact rfl)
  (hk:go X 4000 k ⟨(d,⟨[],.sl e [] (some st.tk.length)⟩) :: st.sl,st.bx,st.tk ++ [⟨0,et,e,none⟩]⟩):Rf X o k st:=(agj hop lr hT hd hst hX).g hk
theorem Wk.JL {st':St} (N:Nat) (hN:Nat.ble X.n0 N=true) (hNl:Nat.ble N st.bx.length=true) (lV:mU st.bx N N st.tk.length st'.bx (st.bx.take N)) (jt:st'.tk=st.tk) (qJ:RH st.bx N st.tk.length st.sl st'.sl):Wk X st st':=fun _ _ _ h=>
 MP h N (nL hN) (nL hNl) lV jt qJ
theorem Rf.wk {st':St} {o:Oper} (hw:Wk X st st') (hd:fU X.nt st'.sl o.dst=true) {p:Prop} (hp:effC X st' o (go X 4000 k)=some p) (h:p):Rf X o k st:=fun E a w hr=>by
 obtain ⟨E',py⟩:=hw _ _ _ hr;refine G1 (kA ?_ (lj hd py hp h));rintro a' w' ⟨OR,E2,vv,ki,_⟩;exact go_sound 4000 _ _ vv _ _ _ ki
theorem NG (h:Rel X E st a w) (hst:X.still=false) (hX:X.bt=[]) {g n ty e cap:Nat} {cur:Array Value} (hw:w.heap[g]? = some (.cells cur ty (0,0))) (cK:cur.size=cap * e) (hn:n<=cap) (OJ:cap<=maxLen) (hb:g ∉ E.β)
  (hc:∀ x v,E.c x=some v->x.block=g->x.off < n * e) (dW:∀ (k:Nat) y,E.τ[k]? = some y->y.ownBlock≠some g) (hg:X.w0.heap.size<=g) :
  Rel X ⟨E.c,E.β,E.tk ++ [⟨n,ty,e,none⟩],E.τ ++ [.slice (some ⟨g,0,none⟩) n cap]⟩ ⟨st.sl,st.bx,st.tk ++ [⟨n,ty,e,none⟩]⟩ a w:=by
 let E2:En:=⟨E.c,E.β,E.tk ++ [⟨n,ty,e,none⟩],E.τ ++ [.slice (some ⟨g,0,none⟩) n cap]⟩
 have hext:Ext E E2:=⟨fun _ _ h=>h,fun _ _ h=>h,fun k q' hk=>by
  have az:=(gS hk).1;refine ⟨q',by show (E.tk ++ _)[k]? = _;rw [eT az];exact hk,.inl ⟨rfl,?_⟩⟩;show (E.τ ++ _)[k]? = _
  rw [eT (by rw [h.env.tl];exact az)]⟩
 have hτ:∀ (k:Nat) y,E2.τ[k]? = some y->(k < E.τ.length/\E.τ[k]? = some y)∨(k=E.τ.length/\y = .slice (some ⟨g,0,none⟩) n cap):=fun k y hy=>by grind
 refine dF h hext ?_ (by show E.tk ++ _=_;rw [h.tk]) ?_ h.fr (pj hst) (.nil hX)
 ·exact {
   len:=h.env.len
   tl:=by show (E.τ ++ _).length=(E.tk ++ _).length;simp [h.env.tl]
   eQ:=fun i cs hi=>by
    obtain ⟨b,t,arr,hb,hw,hc⟩:=h.env.eQ i cs hi;exact ⟨b,t,arr,hb,hw,hc.mono hext⟩
   inj:=h.env.inj
   sub:=h.env.sub
   pc:=h.env.pc
   dh:=fun k q' y hkq hy=>by
    rcases hτ k y hy with ⟨az,jw⟩ | ⟨rfl,rfl⟩
    ·have iH:(E.tk ++ [⟨n,ty,e,none⟩])[k]? = some q':=hkq;rw [eT (by rw [<- h.env.tl];exact az)] at iH;exact h.env.dh k q' y iH jw
    ·have iH:(E.tk ++ [⟨n,ty,e,none⟩])[E.τ.length]? = some q':=hkq;rw [List.getElem?_append_right (by rw [h.env.tl];exact zLeR _),h.env.tl] at iH;simp only [Nat.sub_self,List.getElem?_cons_zero,oI] at iH;subst iH;exact .inr ⟨g,cap,cur,rfl,hw,⟨cK,fun cs h=>by cases h⟩,hn,OJ,hb,hc⟩
   jY:=fun k k' y y' g' BN hy jw ry Yu=>by
    rcases hτ k y hy with ⟨_,BU⟩ | ⟨rfl,rfl⟩
    ·rcases hτ k' y' jw with ⟨_,og⟩ | ⟨rfl,rfl⟩
     ·exact h.env.jY k k' y y' g' BN BU og ry Yu
     ·simp only [Value.ownBlock,oI] at Yu;subst Yu;exact dW k y BU ry
    ·rcases hτ k' y' jw with ⟨_,og⟩ | ⟨rfl,rfl⟩
     ·simp only [Value.ownBlock,oI] at ry;subst ry;exact dW k' y' og Yu
     ·exact BN rfl }
 ·exact {
   c:=h.nw.c
   cn:=h.nw.cn
   β:=h.nw.β
   tk:=fun j q0 y0 vq J0=>by
    obtain ⟨q',y',h1,h2,h3⟩:=h.nw.tk j q0 y0 vq J0
    grind
   tn:=fun j y g' hj hy za=>by
    rcases hτ j y hy with ⟨_,BU⟩ | ⟨_,rfl⟩
    ·exact h.nw.tn j y g' hj BU za
    ·simp only [Value.ownBlock,oI] at za;omega
   l0:=h.nw.l0 }
theorem TF {t d et e kL n len:Nat} {bb:Bool} {z:List Value} {parts:Array (Nat × Operand)} {es:List (List DV)} (hop:o.op = .buildSlice t len parts) (lr:o.dst=some d) (hT:X.T.find t=some ⟨n,bb,.sl et e kL,z⟩) (tG:litL e st parts.toList 0=some es)
  (hc:(Nat.beq es.length len && (Nat.blt 0 len && Nat.blt 0 e && Nat.ble (len * e) 16777216))=true) (hd:fU X.nt st.sl (some d)=true) (hst:X.still=false:=by exact rfl) (hX:X.bt=[]:=by exact rfl)
  (hk:go X 4000 k ⟨(d,⟨[],.sl e es (some st.tk.length)⟩) :: st.sl,st.bx,st.tk ++ [⟨len,et,e,none⟩]⟩):Rf X o k st:=by
 intro E a w h;simp only [bh,Nat.beq_eq,Nat.ble_eq,Nat.blt_eq] at hc;obtain ⟨hlen,⟨lk,G2⟩,hsm⟩:=hc;obtain ⟨hu,ii,zv,zd,hz,cK,BL,OC⟩:=fV X.hT hT;obtain ⟨xs,vs,hp,vu,zf,fX,hrc,Gz⟩:=rW h.rl G2 tG;subst cK
 have OG:len * ii.size≠0:=by
  have:=Nat.mul_pos lk G2;omega
 have mV:Instr.fill (fun i=>some (i * ii.size,ii.size)) ((Array.range (len * ii.size)).map (zv.cells[·% zv.cells.size]!)) (parts.map fun (i,x)=>(i,a.eval x)).toList=some (cellsL vs).toArray:=by
  have h0:=tf ii.size vs 0 ((Array.range (len * ii.size)).map (zv.cells[·% zv.cells.size]!)).toList fX (by simp [zf,hlen])
  have h1:(parts.map fun (i,x)=>(i,a.eval x)).toList=enumF 0 vs:=by
   rw [Array.toList_map,hp,vu,<- vk]
  rw [h1];simp only [Array.toArray_toList] at h0;rw [h0];simp [zf,hlen]
 have bV:(execOp a.eval o).run X.P w = .ok (.value (.slice (some ⟨w.heap.size,0,none⟩) len len)) (w.alloc (.cells (cellsL vs).toArray et)):=by
  simp only [execOp,hop,Sem.run_bind,run_buildSlice w t et len _ _ ii zv hu zd hz (by omega) OG mV,Result.andThen_ok,Sem.run_pure]
 refine mZ bV ?_;rw [lr];have hr:=vo (arr:=cellsL vs) h hst et
 have Ih:(cellsL vs).length=len * ii.size:=by
  have:∀ l:List Value,(∀ v∈l,v.cells.toList.length=ii.size)->(cellsL l).length=l.length * ii.size:=by
   intro l
   induction l with
   | nil=>intro _;simp [cellsL]
   | cons v l ih=>grind [cellsL]
  rw [this vs fX,zf,hlen]
 have ki:=NG (n:=len) (ty:=et) (e:=ii.size) (cap:=len) hr hst hX (g:=w.heap.size) (cur:=(cellsL vs).toArray) (iF w _) (by simp [Ih]) (zLeR _) (by
   have:len<=len * ii.size:=Nat.le_mul_of_pos_right _ G2;unfold maxLen;omega) (fun hm=>by have:=h.env.bw hm;omega) (fun x v hx JH=>by
   have hx:fJ E.c (w.alloc (.cells (cellsL vs).toArray et)) w.heap.size (cellsL vs).length x=some v:=hx;unfold fJ at hx;split at hx
   ·rename_i hc;rw [<- Ih];exact hc.2.2
   ·have:=World.block_lt_of_cell? w x (h.env.sub x v hx);omega) (fun j y hy hg=>by
   have:=(h.env.own (mG hy) hg).1
   omega) (h.fr.size)
 refine go_sound 4000 _ _ hk _ _ _ (bu ki hd (.sl ii.size es (some st.tk.length)) _ ?_);unfold Rv;refine ⟨_,_,_,rfl,⟨hlen.symm,zLeR _⟩,fun bF=>⟨rfl,?_⟩,fun k' iH=>?_⟩
 ·have fO:∀ x v,E.c x=some v->fJ E.c (w.alloc (.cells (cellsL vs).toArray et)) w.heap.size (cellsL vs).length x=some v:=fun x v hx=>by
   have az:=World.block_lt_of_cell? w x (h.env.sub x v hx);unfold fJ;rw [af (by omega)];exact hx
  have hm:RvC (En.cl ⟨fJ E.c (w.alloc (.cells (cellsL vs).toArray et)) w.heap.size (cellsL vs).length,E.β,E.tk,E.τ⟩) es.flatten (cellsL vs):=hrc.mono (Ext.VS (E:=E) fO);refine rvEs_flat hm Gz fun j u hj=>?_;show fJ _ _ _ _ _=_;have ku:=(gS hj).1;simp only [ab,ao,Nat.zero_add];rw [yy ku,cO (iF w _)];simpa using hj
 ·cases iH;refine ⟨⟨len,et,ii.size,none⟩,?_,zLeR _,fun _=>?_⟩
  ·show (E.tk ++ _)[st.tk.length]? = _;rw [h.tk];simp
  ·show (E.τ ++ _)[st.tk.length]? = _;rw [<- h.tk,<- h.env.tl];simp
end
end Dv
end Go.Proofs.YtfdedoiiahbnnaaGreat
set_option maxRecDepth 100000
namespace Go.Proofs.YtfdedoiiahbnnaaGreat
open Go Go.RowKit Dv Go.Proofs.Tryz
theorem sE {l:List Wd} {o:List (Wd × Wd)} (h:(latF l o).1=0):(hU l o).1=0/\(enumL l 0 l).1=0/\(numF (aF l) o).1=0/\cA (mn l.length (fC l.length (dL (aF l) o))) l.length=none/\cA (pX (fC l.length (dL (aF l) o)) l.length) l.length=none:=by grind [latF]
theorem eD {p:Nat->Bool} {n:Nat} (h:cA p n=none):∀ a,a < n->p a=false:=by grind [cA]
theorem nF {l:List Wd} {o:List (Wd × Wd)} (h:(latF l o).1=0):lH (fC l.length (dL (aF l) o)) l.length/\l.length<=32:=by
 obtain ⟨h1,h2,h3,h4,h5⟩:=sE h;have hP:=qT h3;rw [ee] at hP
 have Hk:l ≠ []:=by
  rintro rfl;simp [hU] at h1
 have JR:l.length<=32:=by grind [hU]
 have hlk:∀ a b,a < l.length->b < l.length->nB (fC l.length (dL (aF l) o)) l.length a b=false:=by
  have key:∀ a b,a<=b->b < l.length->nB (fC l.length (dL (aF l) o)) l.length a b=false:=fun a b yh hb=>by grind [eD,pX]
  intro a b ha hb;rcases Nat.le_total a b with h | h
  ·exact key a b h hb
  ·grind [nB,Aq,Ar]
 refine ⟨{
  pos:=List.length_pos_iff.2 Hk
  rfl':=fun a ha=>vU hP ha
  tr:=fun a b c ha hb hc=>KG hP ha hb hc
  KN:=fun a b ha hb h6 h7=>by grind [eD,mn]
  jn:=fun a b ha hb=>by
   have:=hlk a b ha hb;unfold nB at this;simp only [Bool.or_eq_false_iff,Option.isNone_eq_false_iff] at this;exact Option.isSome_iff_exists.1 this.1
  mt:=fun a b ha hb=>by
   have:=hlk a b ha hb;unfold nB at this;simp only [Bool.or_eq_false_iff,Option.isNone_eq_false_iff] at this
   exact Option.isSome_iff_exists.1 this.2 },JR⟩
def eZ (s:Sch) (aN:List Nat) (js:List Int):Lx:=⟨aF s.ae,aN,closeR (gA s.ae.length (dL (aF s.ae) s.order)) s.ae.length,js,fC s.ae.length (dL (aF s.ae) s.order)⟩
theorem Xc {s:Sch} {d:DV} (h:(latF s.ae s.order).1=0) (hd:abt s.ae s.order d) (hw:s.ae.length<=1099511627776):∃ aN js,(eZ s aN js).OK/\d=(eZ s aN js).pd:=by
 obtain ⟨aN,js,hT,nZ,zc,FA,rfl⟩:=hd;obtain ⟨h1,h2⟩:=nF h;refine ⟨aN,js,⟨hT,by show aN.length<=_;omega,?_,?_,?_⟩,rfl⟩
 ·show lH _ (aF s.ae).length;rw [ee];exact h1
 ·show (aF s.ae).length<=32;rw [ee];exact h2
 ·show ∀ x y,x < (aF s.ae).length->y < (aF s.ae).length->JM _ (aF s.ae).length js x y;rw [ee];exact FA
def jU (s:Sch) (l:List Wd):Int:=FB (fC s.ae.length (dL (aF s.ae) s.order)) (aF s.ae) l
def n9 (s:Sch) (t:Ty):Ft:=knT ⟨aF s.ae,[],[],[],fun _ _=>false⟩ (tL s) t
mutual
theorem DD {X Y:Lx} (h:X.ag=Y.ag) (L:List ByteArray):∀ t:Ty,knT X L t=knT Y L t
 | .mk h1 ps=>by rw [knT,knT,DE h L ps]
theorem DE {X Y:Lx} (h:X.ag=Y.ag) (L:List ByteArray):∀ ps:Pts,knP X L ps=knP Y L ps
 | .nil=>by rw [knP,knP]
 | .cons p t r=>by
  rw [knP,knP,DE h L r,DD h L t];unfold Lx.bad;rw [h]
end
theorem abC (s:Sch) (aN:List Nat) (js:List Int) (t:Ty):knT (eZ s aN js) (tL s) t=n9 s t:=DD (X:=eZ s aN js) (Y:=⟨aF s.ae,[],[],[],fun _ _=>false⟩) rfl (tL s) t
def jf (s:Sch):Ft:=
 if (latF s.ae s.order).1≠0 then latF s.ae s.order
 else if (fF s).1≠0 then fF s
 else if (eaR s.root s.types 0).1.1≠0 then (eaR s.root s.types 0).1
 else if (eaL (n9 s) (n9 s s.root) s.types).1≠0 then eaL (n9 s) (n9 s s.root) s.types
 else loopF s
def ndsAll (lev:List Wd->Int) (s:Sch):List (Wd × Ty)->Nat->List Nd
 | [],_=>[]
 | x :: r,k=>ndsT lev s x.2 k ++ ndsAll lev s r (k + x.2.nn)
def wo (s:Sch):List Nd:=ndsAll (jU s) s s.types 0
def aV (s:Sch):List Nd:=wo s ++ ndsT (jU s) s s.root (wo s).length
def kF (s:Sch):Int:=sD s s.root (wo s).length
def ZA (s:Sch) (aN mJ:List Nat) (js:List Int):List DV:=
 [(eZ s aN js).pd,.sl 7 (cE (aV s)) none,.v (.int .i64 (kF s)),.pt (dB (tL s) mJ) 0,.sl 1 (dInts (namedL s)) none]
def TG (s:Sch) (d:DV):Prop:=∃ aN mJ js,(eZ s aN js).OK/\jy (tL s) mJ/\mJ.length<=s.types.length/\d = .pt (ZA s aN mJ js) 0
def KZ (s:Sch) (r:DV) (_:List (List DV)) (_:List TkE):Prop:=
 if (jf s).1≠0 then r = .bo [.v (.pointer none),(jf s).d] else ∃ d,TG s d/\r = .bo [d,Ft.d (0,0)]
theorem qa {s:Sch} {f:Ft} {os:List (List DV)} {tk:List TkE} (h:jf s=f) (hf:f.1≠0):KZ s (.bo [.v (.pointer none),f.d]) os tk:=by
 unfold KZ;rw [h,zIfP hf]
theorem Xd {s:Sch} {d:DV} {os:List (List DV)} {tk:List TkE} (h:(jf s).1=0) (hd:TG s d):KZ s (.bo [d,Ft.d (0,0)]) os tk:=by grind [KZ]
theorem TH {F:Ty->Ft} {z:Ft}:∀ {l:List (Wd × Ty)},(eaL F z l).1=0->z.1=0/\∀ x∈l,(F x.2).1=0
 | [],h=>⟨h,fun x hx=>by cases hx⟩
 | x :: r,h=>by
  rw [eaL] at h;split at h
  ·rename_i h1;exact (h1 h).elim
  ·rename_i h1;obtain ⟨h2,h3⟩:=TH h
   grind
theorem TI {z:Ty}:∀ {l:List (Wd × Ty)} {m:Int},0<=m->(eaR z l m).1.1=0->(wrong z 1 0).1.1=0/\(∀ x∈l,(wrong x.2 1 0).1.1=0)/\(eaR z l m).2=m + ((l.map fun x=>x.2.cnt).sum + z.cnt:Nat)/\(eaR z l m).2<=512
 | [],m,_,h=>by grind [eaR,qU]
 | x :: r,m,hm,h=>by
  rw [eaR] at h ⊢;split at h
  ·rename_i h1;exact (h1 h).elim
  ·rename_i h1;rw [af h1];obtain ⟨g1,g2,g3,_⟩:=qU (sU h1);obtain ⟨h2,h3,h4,h5⟩:=TI (by omega) h
   grind
theorem AF (lev:List Wd->Int) (s:Sch):∀ (l:List (Wd × Ty)) (k:Nat),(ndsAll lev s l k).length=(l.map fun x=>x.2.nn).sum
 | [],_=>rfl
 | x :: r,k=>by simp only [ndsAll,List.length_append,lK,AF lev s r,List.map_cons,List.sum_cons]
theorem AG:∀ l:List (Wd × Ty),(l.map fun x=>x.2.nn).sum<=(l.map fun x=>x.2.cnt).sum
 | []=>zLeR _
 | x :: r=>by
  have:=x.2.iz;have:=AG r
  grind
theorem DF:∀ l:List Nd,(cE l).flatten.length=l.length * 7
 | []=>rfl
 | a :: r=>by
  have:=DF r;simp only [cE,List.map_cons,List.flatten_cons,List.length_append,List.length_cons] at this ⊢;rw [this];simp only [GG,List.length_cons,List.length_nil];omega
theorem FH {X:Lx} {s:Sch} {t:Ty} (h:(knT X (tL s) t).1=0):ym s t=true:=by
 obtain ⟨hd,ps⟩:=t;have:=(p9 h).1;unfold ym;exact decide_eq_true this
theorem Ii {s:Sch} (h:(loopF s).1=0):∀ i,i < s.types.length->∃ k,endI s (s.types.length + 1) i=some k:=by
 intro i hi;unfold loopF at h;split at h
 ·rename_i h1;have:=eD h1 i hi;simp only [Option.isNone_eq_false_iff] at this;exact Option.isSome_iff_exists.1 this
 ·cases h
abbrev TJ (s:Sch) (aN:List Nat) (lc:List DV) (m:Int) (f1 f2:Int) (n:Nat) (base:List DV) (e:Nat):St:=
 ⟨[aJ 1 4,aJ 3 3,aJ 6 0,bJ 59 11 (dNms s.types),aC 60 ((dNms s.types).length),aC 61 e],
  [bC s (.pt lc 0) (.loc 1 0) m,QX s aN lc n,[.v (.int .i64 f1),.v (.int .i64 f2)],[.v (.int .i64 0),.v (.int .i64 0)],dt s],[KU n base]⟩
theorem K0 (s:Sch) (hs:s.wt<=1099511627776):Ev prog 26 [.agg (dt s)] [] [] (KZ s):=by
 have hF:=jf.eq_1 s;have hw:=hs;simp only [Sch.wt] at hw;have hwl:=bW s.ae;have VE:=nk s.types;have tQ:=HY s.ae s.order (by omega) (by omega);have ye:=fun lc=>FE s lc (by omega)
 have c7:∀ t,(t=s.root∨∃ x∈s.types,t=x.2)->t.wt<=1099511627776:=fun t ht=>by
  rcases ht with rfl | ⟨x,hx,rfl⟩
  ·omega
  ·have:=jO hx;omega
 have agl:=fun lc aN=>KT s lc aN 0 (by omega) (by omega) (by omega) c7;have agm:=fun (X:Lx) (hX:X.OK) (aN:List Nat) (hT:jy (tL s) aN) (nZ:aN.length<=1099511627776) (m:Int)=>PA s X.pd (KS s aN (jS X.ag (dB X.ag X.aN) X.rows X.js)) m (by omega) 65 aaS (knT X (tL s)) (fun t ht=>AA hX s aN (.pt (jS X.ag (dB X.ag X.aN) X.rows X.js) 0) (.v (.slice none 0 0)) (.v (.int .i64 0)) (.v (.slice none 0 0)) m hT nZ t.wt t (zLeR _) (c7 t ht));have abD:(fF s).1=0->s.types.length<=64:=fun h=>by grind [fF]
 have hLx:=fun d h hd=>@Xc s d h hd (by omega);have ZB:=fun (lat:DV) (aN:List Nat) (a b c e0:DV) (m:Int)=>KR s lat aN a b c e0 m;have TL:=fun (lc:List DV) (aN:List Nat) (m:Int)=>Ia s lc aN m;have nE:=fun (X:Lx) (hX:X.OK) (aN:List Nat) (m:Int) (hT:jy (tL s) aN) (nZ:aN.length<=1099511627776) (t:Ty) (ht:t.wt<=1099511627776)=>Dz hX s aN m hT nZ t.wt t (zLeR _) ht;refine eG 85 [.tmp 2,.cell 3 26] func26 rfl ntmps26 rfl fun _ _ _ _=>?_;generalize hS:s=S at *;obtain ⟨ae,order,types,⟨rh,rp⟩⟩:=s;subst hS;refine bZ en61 rfl tQ ax (fun r hr=>?_);by_cases hL:(latF ae order).1≠0
 ·have hL':=hL;rw [zIfP (show (latF (Sch.mk ae order types (.mk rh rp)).ae (Sch.mk ae order types (.mk rh rp)).order).1≠0 from hL)] at hF;unfold KK at hr;rw [zIfP (show (latF (Sch.mk ae order types (.mk rh rp)).ae (Sch.mk ae order types (.mk rh rp)).order).1≠0 from hL)] at hr;subst hr;refine br ?_ ?_<;>intro h
  ·refine dS ?_;exact ⟨_,ax,qa (os:=[]) (tk:=[]) hF hL⟩
  ·exfalso;simp at h;exact hL h
 unfold KK at hr;rw [af (show ¬ (latF (Sch.mk ae order types (.mk rh rp)).ae (Sch.mk ae order types (.mk rh rp)).order).1≠0 from hL)] at hF hr;obtain ⟨d,hd,rfl⟩:=hr;have hL0:(latF ae order).1=0:=sU hL;obtain ⟨aN,js,hX,rfl⟩:=hLx d hL0 hd;generalize Xe:eZ ⟨ae,order,types,.mk rh rp⟩ aN js=X at hX;refine br (fun h=>?_) (fun _=>?_)
 ·exfalso;simp at h;exact hL h
 refine CallG.KX 0 4 rfl rfl rfl rfl (CallG.KX 1 3 rfl rfl rfl rfl ?_);refine ai 2 0 en62 rfl rfl rfl av av (ye (jS X.ag (dB X.ag X.aN) X.rows X.js)) (fun r Zj Zi hΦ h1 h2=>?_);obtain ⟨rfl,O7⟩:=hΦ;have h2:=List.eq_nil_of_length_eq_zero h2;subst h2;by_cases NB:(fF ⟨ae,order,types,.mk rh rp⟩).1≠0
 ·rw [zIfP NB] at hF
  obtain ⟨a,b,rfl⟩:∃ a b,Zj=[a,b]:=by
   match Zj,h1 with
   | [a,b],_=>exact ⟨a,b,rfl⟩
  refine br ?_ ?_<;>intro h
  ·refine dS ?_;exact ⟨_,ax,qa (os:=[]) (tk:=[]) hF NB⟩
  ·exfalso;simp at h;exact NB h
 rw [af NB] at hF;have agn:(fF ⟨ae,order,types,.mk rh rp⟩).1=0:=sU NB;have TM:=abD agn;obtain ⟨mJ,hT,nZ,rfl⟩:=O7 agn;refine br (fun h=>?_) (fun _=>?_)
 ·exfalso;simp at h;exact NB h
 refine ai 2 0 aef rfl rfl rfl av av (agl (jS X.ag (dB X.ag X.aN) X.rows X.js) mJ) (fun r Zj Zi hΦ h1 h2=>?_);obtain ⟨rfl,rfl⟩:=hΦ;have h2:=List.eq_nil_of_length_eq_zero h2;subst h2;by_cases hR:(eaR (.mk rh rp) types 0).1.1≠0
 ·rw [zIfP (show (eaR (Sch.mk ae order types (.mk rh rp)).root (Sch.mk ae order types (.mk rh rp)).types 0).1.1≠0 from hR)] at hF;refine br ?_ ?_<;>intro h
  ·refine dS ?_;exact ⟨_,ax,qa (os:=[]) (tk:=[]) hF hR⟩
  ·exfalso;simp at h;exact hR h
 rw [af (show ¬ (eaR (Sch.mk ae order types (.mk rh rp)).root (Sch.mk ae order types (.mk rh rp)).types 0).1.1≠0 from hR)] at hF;have hR0:(eaR (.mk rh rp) types 0).1.1=0:=sU hR;refine br (fun h=>?_) (fun _=>?_)
 ·exfalso;simp at h;exact hR h
 have hea:=agm X hX mJ hT (by have:types.length<=64:=TM;have:mJ.length<=types.length:=nZ;omega) (eaR (.mk rh rp) types 0).2;have abE:∀ t,knT X (tL ⟨ae,order,types,.mk rh rp⟩) t=n9 ⟨ae,order,types,.mk rh rp⟩ t:=fun t=>by rw [<- Xe];exact abC _ _ _ t
 have hfeq:eaL (knT X (tL ⟨ae,order,types,.mk rh rp⟩)) (knT X (tL ⟨ae,order,types,.mk rh rp⟩) (.mk rh rp)) types=eaL (n9 ⟨ae,order,types,.mk rh rp⟩) (n9 ⟨ae,order,types,.mk rh rp⟩ (.mk rh rp)) types:=by
  rw [show knT X (tL ⟨ae,order,types,.mk rh rp⟩)=n9 ⟨ae,order,types,.mk rh rp⟩ from funext abE]
 refine Nv aef hea ax rfl rfl ?_;by_cases hK:(eaL (n9 ⟨ae,order,types,.mk rh rp⟩) (n9 ⟨ae,order,types,.mk rh rp⟩ (.mk rh rp)) types).1≠0
 ·rw [zIfP (show (eaL (n9 ⟨ae,order,types,.mk rh rp⟩) (n9 ⟨ae,order,types,.mk rh rp⟩ (Sch.mk ae order types (.mk rh rp)).root) (Sch.mk ae order types (.mk rh rp)).types).1≠0 from hK)] at hF;refine br ?_ ?_<;>intro h
  ·refine dS ?_;refine ⟨.bo [.v (.pointer none),(eaL (knT X (tL ⟨ae,order,types,.mk rh rp⟩)) (knT X (tL ⟨ae,order,types,.mk rh rp⟩) (.mk rh rp)) types).d],ax,?_⟩;rw [hfeq];exact qa (os:=[]) (tk:=[]) hF hK
  ·grind
 rw [af (show ¬ (eaL (n9 ⟨ae,order,types,.mk rh rp⟩) (n9 ⟨ae,order,types,.mk rh rp⟩ (Sch.mk ae order types (.mk rh rp)).root) (Sch.mk ae order types (.mk rh rp)).types).1≠0 from hK)] at hF;have hK0:(eaL (n9 ⟨ae,order,types,.mk rh rp⟩) (n9 ⟨ae,order,types,.mk rh rp⟩ (.mk rh rp)) types).1=0:=sU hK;refine br (fun h=>?_) (fun _=>?_)
 ·grind
 have rk:wdsWt ae + prsWt order + nmsWt types + (Ty.mk rh rp).wt<=1099511627776:=hw;have hnmw:nmsWt types<=1099511627776:=by omega
 obtain ⟨ZC,il⟩:=TH hK0;have hkr':(knT X (tL ⟨ae,order,types,.mk rh rp⟩) (.mk rh rp)).1=0:=by rw [abE];exact ZC
 have ago:∀ x∈types,(knT X (tL ⟨ae,order,types,.mk rh rp⟩) x.2).1=0:=fun x hx=>by rw [abE];exact il x hx
 have agp:∀ x∈types,ym ⟨ae,order,types,.mk rh rp⟩ x.2=true:=fun x hx=>FH (ago x hx);have Xf:mJ.length<=1099511627776:=by have:types.length<=64:=TM;have:mJ.length<=types.length:=nZ;omega
 refine Nv en66 (ZB X.pd mJ X.pd (.v (.slice none 0 0)) (.v (.int .i64 0)) (.v (.slice none 0 0)) (eaR (.mk rh rp) types 0).2 hT Xf TM agp) ax rfl rfl ?_;by_cases hO:(loopF ⟨ae,order,types,.mk rh rp⟩).1≠0
 ·refine br ?_ ?_<;>intro h
  ·refine dS ?_;exact ⟨_,ax,qa (os:=[]) (tk:=[]) hF hO⟩
  ·exfalso;simp at h;exact hO h
 have hO0:(loopF ⟨ae,order,types,.mk rh rp⟩).1=0:=sU hO;have hF0:(jf ⟨ae,order,types,.mk rh rp⟩).1=0:=by rw [hF];exact hO0
 refine br (fun h=>?_) (fun _=>?_)
 ·exfalso;simp at h;exact hO h
 refine ai 2 0 en67 rfl rfl rfl av av (TL (jS X.ag (dB X.ag X.aN) X.rows X.js) mJ (eaR (.mk rh rp) types 0).2 hT Xf TM agp hnmw (Ii hO0)) (fun r Zj Zi hΦ h1 h2=>?_);subst hΦ;have h2:=List.eq_nil_of_length_eq_zero h2;subst h2;clear ye agl agm ZB TL hea tQ;have hN:(dNms types).length=types.length:=bS types;obtain ⟨PI,BQ,hcm,agq⟩:=TI (Int.le_refl 0) hR0;generalize (eaR (.mk rh rp) types 0).2=m at hcm agq ⊢
 refine aY (fun j st=>∃ (e n:Nat) (base:List DV) (N:List Nd),st=TJ ⟨ae,order,types,.mk rh rp⟩ mJ (jS X.ag (dB X.ag X.aN) X.rows X.js) m (loopF ⟨ae,order,types,.mk rh rp⟩).1 (loopF ⟨ae,order,types,.mk rh rp⟩).2 n base e/\e<=types.length/\n=N.length/\base=(cE N).flatten/\N ++ ndsAll (jU ⟨ae,order,types,.mk rh rp⟩) ⟨ae,order,types,.mk rh rp⟩ (types.drop e) n=wo ⟨ae,order,types,.mk rh rp⟩/\j=types.length - e) types.length
  (TJ ⟨ae,order,types,.mk rh rp⟩ mJ (jS X.ag (dB X.ag X.aN) X.rows X.js) m (loopF ⟨ae,order,types,.mk rh rp⟩).1 (loopF ⟨ae,order,types,.mk rh rp⟩).2 0 [] 0) (di 5 ⟨0,82,7,some []⟩ rfl rfl rfl tJ rfl rfl lW) ⟨0,0,[],[],rfl,by omega,rfl,rfl,rfl,by omega⟩ ?_
 rintro j st ⟨e,n,base,N,rfl,he,hn,Ro,hNN,rfl⟩;have hl64':types.length<=64:=TM;have K1:X.lev=jU ⟨ae,order,types,.mk rh rp⟩:=by rw [<- Xe];all_goals rfl
 have htot:(wo ⟨ae,order,types,.mk rh rp⟩).length + (Ty.mk rh rp).nn<=512:=by
  have h1:=AG types;have h2:=(Ty.mk rh rp).iz;have h3:(wo ⟨ae,order,types,.mk rh rp⟩).length=(types.map fun x=>x.2.nn).sum:=AF _ _ _ _;omega
 have hbl:base.length=n * 7:=by rw [Ro,hn,DF]
 have hNl:n + (ndsAll (jU ⟨ae,order,types,.mk rh rp⟩) ⟨ae,order,types,.mk rh rp⟩ (types.drop e) n).length=(wo ⟨ae,order,types,.mk rh rp⟩).length:=by rw [<- hNN,List.length_append,hn]
 refine br ?_ ?_<;>intro hL
 ·have az:e < types.length:=by have:=hL;simp [hN] at this;exact this
  obtain ⟨x,hx⟩:=gX az;have hxm:=mG hx;rw [drop_cons hx,ndsAll] at hNN hNl;rw [List.length_append] at hNl;have ir:=lK (jU ⟨ae,order,types,.mk rh rp⟩) ⟨ae,order,types,.mk rh rp⟩ x.2 n;have GF:=nE X hX mJ m hT Xf x.2 (c7 x.2 (.inr ⟨x,hxm,rfl⟩)) (ago x hxm) n base (by omega) hbl;rw [K1] at GF;obtain ⟨xw,⟨xh,xp⟩⟩:=x;refine iX (dNms_get hx) ?_;refine ai 2 1 Wr rfl rfl rfl av av GF (fun r Zj Zi hΦ h1 h2=>?_);obtain ⟨rfl,rfl,rfl⟩:=hΦ;refine ⟨TJ ⟨ae,order,types,.mk rh rp⟩ mJ (jS X.ag (dB X.ag X.aN) X.rows X.js) m (loopF ⟨ae,order,types,.mk rh rp⟩).1 (loopF ⟨ae,order,types,.mk rh rp⟩).2 (n + (ndsT (jU ⟨ae,order,types,.mk rh rp⟩) ⟨ae,order,types,.mk rh rp⟩ (.mk xh xp) n).length) (base ++ (cE (ndsT (jU ⟨ae,order,types,.mk rh rp⟩) ⟨ae,order,types,.mk rh rp⟩ (.mk xh xp) n)).flatten) (e + 1),(ej 5 (ng (nxt az (by omega))) (wB1 (nxt az (by omega)))),types.length - (e + 1),by omega,e + 1,_,_,N ++ ndsT (jU ⟨ae,order,types,.mk rh rp⟩) ⟨ae,order,types,.mk rh rp⟩ (.mk xh xp) n,rfl,by omega,by rw [List.length_append,hn],by rw [Ro];simp [cE],?_,rfl⟩;rw [List.append_assoc,ir];exact hNN
 have hge:e=types.length:=sW hN hL;subst hge;rw [List.drop_length,ndsAll,List.append_nil] at hNN;rw [List.drop_length,ndsAll,List.length_nil,Nat.add_zero] at hNl;have hnr:=nE X hX mJ m hT Xf (.mk rh rp) (by omega) hkr' n base (by omega) hbl;rw [K1] at hnr;intro E a w hr;have py:=mX hr;obtain ⟨b0,ty0,OM,ib,sZ,J4⟩:=py.env.eQ 0 _ rfl;obtain ⟨b1,ty1,arr1,mb,s7,MK⟩:=py.env.eQ 1 _ rfl;obtain ⟨v13,hv13,hp13⟩:=RvL.get (i:=13) (d:=.loc 1 0) J4.1 rfl;have agr:v13 = .pointer (some ⟨b1,0,none⟩):=by grind [Rv]
 subst agr
 have zj:w.drew.cell? ⟨b0,13,none⟩=some (.pointer (some ⟨b1,0,none⟩)):=by
  rw [cO sZ];simpa using hv13
 have Vx:=NF py.env [0,1,2,3];generalize CL:maskL [0,1,2,3] 0 _=bxm at Vx;have hbmi:∀ (i:Nat) cs,bxm[i]? = some cs->cs ≠ []->2<=i:=fun i cs hi bF=>by grind [maskL]
 refine mB (C:=fun w'=>CC E bxm w.drew w' /\ w'.cell? ⟨b0,13,none⟩=some (.pointer (some ⟨b1,0,none⟩))) (W:=fun i=>Nat.beq i 10) (Q:=fun a w=>kq _ _ .normal a w) mo (by decide +kernel) (fun _ _ h=>h) ⟨⟨fun _ _ _ _ _ _=>rfl,py.env.sub⟩,zj⟩ ?_;show Go.Proofs.YtfdedoiiahbnnaaGreat.Dv.runT _ _ _ _ _ [0,1,2,3,4,5,6,7,8,9,10] _ _;refine oG py rfl rfl rfl rfl rfl rfl (fun a0 h0=>?_);refine oG h0 rfl rfl rfl rfl rfl rfl (fun a1 h1=>?_);refine oG h1 rfl rfl rfl rfl rfl rfl (fun a2 h2=>?_);refine W8 h2 rfl mb rfl rfl ib rfl rfl (fun w' h=>h.2) ⟨⟨fun _ _ _ _ _ _=>rfl,py.env.sub⟩,zj⟩ rfl rfl (fun a3 h3=>?_);refine oG h3 rfl rfl rfl rfl rfl rfl (fun a4 h4=>?_);refine oG h4 rfl rfl rfl rfl rfl rfl (fun a5 h5=>?_);refine W7 h5 rfl (bx:=bxm) (FG h5 Vx (fun w' h=>h.1)) ⟨⟨fun _ _ _ _ _ _=>rfl,py.env.sub⟩,zj⟩ rfl rfl (by rw [<- CL];rfl) rfl (fun a6 h6=>?_);refine Xa h6 rfl rfl rfl rfl rfl rfl Wr 2 1 rfl rfl av av hnr rfl rfl ?_;intro v r Zj Zi E' w' hΦ _ _ cg QW hx hβ hh;obtain ⟨rfl,rfl,rfl⟩:=hΦ;refine ⟨fun _ hC=>⟨⟨fun i b cs hb cx bF=>?_,fun x v hxv=>cg.env.sub x v (hx.c x v hxv)⟩,?_⟩,?_⟩
 ·exact hh i b (hbmi i cs cx bF) hb
 ·obtain ⟨b0',ty0',arr0',abF,hw0',hc0'⟩:=cg.env.eQ 0 _ rfl;rw [hβ,ib] at abF;simp only [oI] at abF;subst abF;obtain ⟨u13,hu13,ags⟩:=RvL.get (i:=13) (d:=.loc 1 0) hc0'.1 rfl;unfold Rv at ags;obtain ⟨b,hb,rfl⟩:=ags;rw [hβ,mb] at hb;simp only [oI] at hb;subst hb;rw [cO hw0'];simpa using hu13
 have h7:=bu (dst:=some 77) cg rfl _ v QW;have hrN:(wo ⟨ae,order,types,.mk rh rp⟩).length=n:=by rw [<- hNN,hn]
 have vw:base ++ (cE (ndsT (jU ⟨ae,order,types,.mk rh rp⟩) ⟨ae,order,types,.mk rh rp⟩ (.mk rh rp) n)).flatten=(cE (aV ⟨ae,order,types,.mk rh rp⟩)).flatten:=by grind [aV,cE]
 have agt:(cE (aV ⟨ae,order,types,.mk rh rp⟩)).length=n + (ndsT (jU ⟨ae,order,types,.mk rh rp⟩) ⟨ae,order,types,.mk rh rp⟩ (.mk rh rp) n).length:=by
  unfold aV;rw [hrN];simp [cE,hrN]
 obtain ⟨E3,h8⟩:=Xb h7 1 1 0 (ns:=cE (aV ⟨ae,order,types,.mk rh rp⟩)) (congrArg (fun b=>some (KU (n + (ndsT (jU ⟨ae,order,types,.mk rh rp⟩) ⟨ae,order,types,.mk rh rp⟩ (.mk rh rp) n).length) b)) vw) (fun x hx=>by
  simp only [cE,List.mem_map] at hx;obtain ⟨y,_,rfl⟩:=hx
  rfl) agt rfl rfl List.length_replicate
 refine oG h8 rfl rfl rfl rfl rfl rfl (fun a8 h9=>?_);refine oG h9 rfl rfl rfl rfl rfl rfl (fun a9 u7=>?_);refine PH u7 rfl rfl rfl rfl rfl rfl ?_;refine ⟨.bo [.pt [X.pd,.sl 7 (cE (aV ⟨ae,order,types,.mk rh rp⟩)) none,.v (.int .i64 (sD ⟨ae,order,types,.mk rh rp⟩ (.mk rh rp) n)),.pt (dB (tL ⟨ae,order,types,.mk rh rp⟩) mJ) 0,.sl 1 (dInts (namedL ⟨ae,order,types,.mk rh rp⟩)) none] 0,Ft.d (0,0)],ax,Xd (os:=[]) (tk:=[]) hF0 ⟨aN,mJ,js,by rw [Xe];exact hX,hT,nZ,?_⟩⟩;rw [ZA,Xe,kF,hrN]
theorem Xg (es:List (List DV)) (hl:es.length<=1099511627776):Ev prog 98 [.sl 1 es none] [] [] (fun r _ _=>r = .sl 1 es none∨(es=[]/\r = .v (.slice none 0 0))):=by
 refine eG 8 [.tmp 2] func98 rfl ntmps98 rfl fun _ _ _ _=>?_;refine TD ⟨_,rfl⟩ rfl rfl rfl rfl (fun b hb=>?_);refine br ?_ ?_<;>intro h
 ·have h:b=true:=h;have he:es=[]:=Classical.byContradiction fun hn=>by rw [hb hn] at h;cases h
  subst he;exact Or.inr ⟨rfl,rfl⟩
 ·refine Ig rfl rfl rfl rfl (hk:=?_);refine ⟨rfl,⟨by simp [maxLen];omega,by simp;omega⟩,?_⟩;exact ⟨_,ax,Or.inl rfl⟩
theorem Xh (es:List (List DV)) (hl:es.length<=1099511627776):Ev prog 99 [.sl 10 es none] [] [] (fun r _ _=>r = .sl 10 es none∨(es=[]/\r = .v (.slice none 0 0))):=by
 refine eG 8 [.tmp 2] func99 rfl ntmps99 rfl fun _ _ _ _=>?_;refine TD ⟨_,rfl⟩ rfl rfl rfl rfl (fun b hb=>?_);refine br ?_ ?_<;>intro h
 ·have h:b=true:=h;have he:es=[]:=Classical.byContradiction fun hn=>by rw [hb hn] at h;cases h
  subst he;exact Or.inr ⟨rfl,rfl⟩
 ·refine Ig rfl rfl rfl rfl (hk:=?_);refine ⟨rfl,⟨by simp [maxLen];omega,by simp;omega⟩,?_⟩;exact ⟨_,ax,Or.inl rfl⟩
def plD (lc:List DV) (Dx:List Nd) (root:Int) (L:List ByteArray) (aN:List Nat) (named:List Nat):DV:=.pt [.pt lc 0,.sl 7 (cE Dx) none,.v (.int .i64 root),.pt (dB L aN) 0,.sl 1 (dInts named) none] 0
theorem fL (l:List Nd):(cE l).length=l.length:=by simp [cE]
theorem j8 {l:List Nd} {i:Nat} {n:Nd} (h:l[i]? = some n):(cE l)[i]? = some (GG n):=by simp [cE,h]
section
variable (lc:List DV) (Dx:List Nd) (root:Int) (L:List ByteArray) (aN:List Nat) (named:List Nat)
theorem wu:aR prog 22 [plD lc Dx root L aN named] (.v (.int .i64 Dx.length)):=by
 refine eG 10 [.tmp 2] func22 rfl ntmps22 rfl fun _ _ _ _=>?_;refine (rY ?_:);rw [fL]
theorem K2:aR prog 23 [plD lc Dx root L aN named] (.v (.int .i64 root)):=by
 refine eG 9 [.tmp 2] func23 rfl ntmps23 rfl fun _ _ _ _=>?_;exact (rfl:_=_)
theorem PJ:aR prog 45 [plD lc Dx root L aN named] (.pt lc 0):=by
 refine eG 9 [.tmp 2] func45 rfl ntmps45 rfl fun _ _ _ _=>?_;exact ⟨_,ax,rfl⟩
theorem K3 (i:Nat) (n:Nd) (h:Dx[i]? = some n) (hn:n.ag.length<=1099511627776) (he:n.bK.length<=1099511627776) :
  aR prog 38 [plD lc Dx root L aN named,.v (.int .i64 i)] (.bo [.agg (GG n),.v (.bool true)]):=by
 have az:=(gS h).1;have hlen:=wu lc Dx root L aN named;have MK:=Xg (fQ n.ag) (by rw [cX];exact hn);have tw:=Xh (lZ n.bK) (by rw [eJ];exact he);refine eG 32 [.cell 4 82,.tmp 5] func38 rfl ntmps38 rfl fun _ _ _ _=>?_;refine cP RL hlen ?_;refine br ?_ ?_<;>intro g
 ·exfalso;simp [pickB] at g;omega
 refine iX (j8 h) ?_;refine dS ?_;refine tN en98 rfl MK ax (fun r1 hr1=>?_);rcases hr1 with rfl | ⟨h1,rfl⟩
 ·refine tN aej rfl tw ax (fun r2 ki=>?_);rcases ki with rfl | ⟨h2,rfl⟩
  ·exact ⟨.bo [.agg (GG n),.v (.bool true)],ax,rfl⟩
  ·exact ⟨.bo [.agg (GG n),.v (.bool true)],(by repeat' (first | exact rfl | exact trivial | exact Or.inr (Or.inl ⟨_,rfl⟩) | exact Or.inr ⟨_,rfl⟩ | exact Or.inl ⟨rfl,rfl⟩ | exact Or.inl rfl | refine Or.inr ⟨_,_,rfl,Nat.zero_le _,rfl,?_⟩ | refine ⟨_,_,rfl,?_,?_⟩ | refine ⟨_,rfl,?_⟩ | exact Or.inl ⟨h2,rfl⟩ | refine Or.inr (Or.inr (Or.inr ⟨_,_,rfl,?_⟩)) | exact Or.inl rfl | refine Or.inr ?_)),rfl⟩
 ·refine tN aej rfl tw ax (fun r2 ki=>?_);rcases ki with rfl | ⟨h2,rfl⟩
  ·exact ⟨.bo [.agg (GG n),.v (.bool true)],(by repeat' (first | exact rfl | exact trivial | exact Or.inr (Or.inl ⟨_,rfl⟩) | exact Or.inr ⟨_,rfl⟩ | exact Or.inl ⟨rfl,rfl⟩ | exact Or.inl rfl | refine Or.inr ⟨_,_,rfl,Nat.zero_le _,rfl,?_⟩ | refine ⟨_,_,rfl,?_,?_⟩ | refine ⟨_,rfl,?_⟩ | exact Or.inl ⟨h1,rfl⟩ | refine Or.inr (Or.inr (Or.inr ⟨_,_,rfl,?_⟩)) | exact Or.inl rfl | refine Or.inr ?_)),rfl⟩
  ·exact ⟨.bo [.agg (GG n),.v (.bool true)],(by repeat' (first | exact rfl | exact trivial | exact Or.inr (Or.inl ⟨_,rfl⟩) | exact Or.inr ⟨_,rfl⟩ | exact Or.inl ⟨rfl,rfl⟩ | exact Or.inl rfl | refine Or.inr ⟨_,_,rfl,Nat.zero_le _,rfl,?_⟩ | refine ⟨_,_,rfl,?_,?_⟩ | refine ⟨_,rfl,?_⟩ | exact Or.inl ⟨h1,rfl⟩ | exact Or.inl ⟨h2,rfl⟩ | refine Or.inr (Or.inr (Or.inr ⟨_,_,rfl,?_⟩)) | exact Or.inl rfl | refine Or.inr ?_)),rfl⟩
theorem K4 (i:Int) (h:i < 0∨Dx.length<=i) :
  aR prog 38 [plD lc Dx root L aN named,.v (.int .i64 i)] (.bo [.agg [.v (.int .i64 0),.v (.int .i64 0),.v (.int .i64 0),.v (.int .i64 0),.v (.int .i64 0),.v (.slice none 0 0),.v (.slice none 0 0)],.v (.bool false)]):=by
 have hlen:=wu lc Dx root L aN named;refine eG 32 [.cell 4 82,.tmp 5] func38 rfl ntmps38 rfl fun _ _ _ _=>?_;refine br ?_ ?_<;>intro g
 ·refine cP RL hlen ?_;refine br ?_ ?_<;>intro g2
  ·exact ⟨_,ax,rfl⟩
  ·exfalso;simp at g;simp [pickB,g] at g2;omega
 ·exact ⟨_,ax,rfl⟩
end
def samePrs:List (Wd × Wd)->List (Wd × Wd)->Bool
 | [],[]=>true
 | x :: r,y :: s=>(decide (x.1.s=y.1.s) && decide (x.2.s=y.2.s)) && samePrs r s
 | _,_=>false
def sameNms:List (Wd × Ty)->List (Wd × Ty)->Bool
 | [],[]=>true
 | x :: r,y :: s=>(decide (x.1.s=y.1.s) && sameTy x.2 y.2) && sameNms r s
 | _,_=>false
def MO (a b:Sch):Bool:=sameWds a.ae b.ae && samePrs a.order b.order && sameTy a.root b.root && sameNms a.types b.types
theorem PK:∃ d,Op.maxDepth=d + 1 + 1 + 1:=⟨Op.maxDepth - 3,by decide⟩
theorem TN (p q r s:Int) (w:World):(Op.equal 26 (.agg #[.int .i64 p,.int .i64 q]) (.agg #[.int .i64 r,.int .i64 s])).run prog w = .ok (decide (p=r) && decide (q=s)) w:=by
 have hf:prog.underlying 26=some (.struct (prog.fieldsOf 26)):=by simp [Program.fieldsOf,Tryz.underlying26]
 have BW:(prog.fieldsOf 26).toList=[⟨ "E",24,0,false, "", "",0⟩,⟨ "At",3,1,false, "", "",8⟩]:=by simp [Program.fieldsOf,Tryz.underlying26]
 have hs:prog.stoodInHeld 26=false:=by kernel_rfl
 obtain ⟨d,hm⟩:=PK
 have q9:∀ cs:Array Value,∀ off v,cs[off]? = some v->(part 24 cs off).run prog w = .ok v w:=fun cs off v h=>by
  simp [part,Tryz.isAgg24,h]
 have q3:∀ cs:Array Value,∀ off v,cs[off]? = some v->(part 3 cs off).run prog w = .ok v w:=fun cs off v h=>by
  simp [part,Tryz.isAgg3,h]
 unfold Op.equal;rw [hm,run_equalIn_struct w (d + 1 + 1) 26 _ _ hf hs,BW];simp only [Op.eqFields,ne_eq,String.reduceEq,not_false_eq_true,if_true,Sem.run_bind,q9 #[.int .i64 p,.int .i64 q] 0 (.int .i64 p) rfl,q9 #[.int .i64 r,.int .i64 s] 0 (.int .i64 r) rfl,Result.andThen_ok,run_equalIn_int w (d + 1) 24 .i64 .i64 p r Tryz.underlying24];by_cases h:p=r
 ·subst h;have e1:=q3 #[.int .i64 p,.int .i64 q] 1 (.int .i64 q) rfl;have e2:=q3 #[.int .i64 p,.int .i64 s] 1 (.int .i64 s) rfl;have e3:=run_equalIn_int w (d + 1) 3 .i64 .i64 q s Tryz.underlying3;by_cases h2:q=s
  ·subst h2;simp [e1,e3,Sem.run_pure]
  ·simp [e1,e2,e3,h2,Sem.run_pure]
 ·simp [h,Sem.run_pure]
theorem abG (p q r s:Int) (w:World):(binOp .eql 26 (.agg #[.int .i64 p,.int .i64 q]) (.agg #[.int .i64 r,.int .i64 s])).run prog w = .ok (.bool (decide (p=r) && decide (q=s))) w:=by
 show ((do let r <- Op.equal 26 _ _;pure (Value.bool r)):Sem Value).run prog w=_;simp only [Sem.run_bind,TN p q r s w,Result.andThen_ok,Sem.run_pure]
theorem TO (op:BinOp) (w:World) (x y:Operand) (vs vs':Array Value):(eqGuard op 26 x y (.agg vs) (.agg vs')).run prog w = .ok () w:=by
 have h:prog.eqGuardType prog.depth 26=false:=by kernel_rfl
 cases op<;>simp [eqGuard,run_program,h]
theorem TP (x y:Operand) (f g:Ft):EJ prog .eql x y 26 [.v (.int .i64 f.1),.v (.int .i64 f.2)] [.v (.int .i64 g.1),.v (.int .i64 g.2)] (decide (f.1=g.1) && decide (f.2=g.2)):=
 ⟨[.int .i64 f.1,.int .i64 f.2],[.int .i64 g.1,.int .i64 g.2],rfl,rfl,fun w=>⟨TO _ w x y _ _,abG f.1 f.2 g.1 g.2 w⟩⟩
def cB (r:List Bool):List DV:=r.map fun b=>DV.v (.bool b)
def AH (r:List Bool):List (List DV):=r.map fun b=>[DV.v (.bool b)]
def dM (m:List (List Bool)):List (List DV):=m.map fun r=>[DV.sl 1 (AH r) none]
theorem wv (r:List Bool):(cB r).length=r.length:=by simp [cB]
theorem yI (r:List Bool):(AH r).length=r.length:=by simp [AH]
theorem AJ (m:List (List Bool)):(dM m).length=m.length:=by simp [dM]
theorem TQ {r:List Bool} {i:Nat} {b:Bool} (h:r[i]? = some b):(cB r)[i]? = some (DV.v (.bool b)):=by simp [cB,h]
theorem FI (r:List Bool) (i:Nat) (b:Bool):(cB r).set i (DV.v (.bool b))=cB (r.set i b):=by simp [cB,List.map_set]
theorem NH {r:List Bool} {i:Nat} {b:Bool} (h:r[i]? = some b):(AH r)[i]? = some [DV.v (.bool b)]:=by simp [AH,h]
theorem TR {m:List (List Bool)} {i:Nat} {r:List Bool} (h:m[i]? = some r):(dM m)[i]? = some [DV.sl 1 (AH r) none]:=by simp [dM,h]
theorem ur (r:List Bool):(AH r).flatten=cB r:=by
 induction r with
 | nil=>rfl
 | cons b r ih=>simp only [AH,cB,List.map_cons,List.flatten_cons] at ih ⊢;rw [ih];all_goals rfl
theorem PL (n:Nat):(List.replicate n (vL [Value.bool false])).flatten=cB (List.replicate n false):=by
 induction n with
 | zero=>rfl
 | succ n ih=>simp only [List.replicate_succ,List.flatten_cons,ih];rfl
theorem cR {n m:Nat} {tk:List TkE} {l:List DV} {r:List Bool} (h:l=cB r):WeL n m tk l (cB r):=by
 subst h;refine Af _ fun x hx=>?_;obtain ⟨z,_,rfl⟩:=List.mem_map.1 hx;exact ⟨_,rfl⟩
theorem ZD {bx:List (List DV)} {N n0 m0 n:Nat} {r:List Bool} (hr:r.length=n) (hN:N<=0) (hb:bx[0]? = some (cB r)):Cc bx N n0 m0 (.sl 1 (AH r) none) (.ms 0 1 0 n n):=by
 simp only [Cc];refine Or.inr (Or.inr (Or.inl ⟨0,0,n,_,by rw [yI,hr],hN,hb,?_,?_,?_⟩))
 ·grind [ur,wv,yI]
 ·grind [AH]
 ·intro x hx;rw [ur] at hx;obtain ⟨_,_,rfl⟩:=List.mem_map.1 hx;exact .inl ⟨_,rfl⟩
def gR (n:Nat) (l:List (Nat × Nat)):List (List Bool):=(List.range n).map (yi n l)
theorem K5 (n:Nat) (l:List (Nat × Nat)):(gR n l).length=n:=by simp [gR]
theorem K6 {n a:Nat} (l:List (Nat × Nat)) (h:a < n):(gR n l)[a]? = some (yi n l a):=by simp [gR,List.getElem?_range h]
theorem PM {n:Nat} {l:List (Nat × Nat)} (h:vT n l):gR n l=eS n (fC n l):=by
 unfold gR eS;exact List.map_congr_left fun a ha=>WO h (List.mem_range.1 ha)
def kp (l:List (Nat × Nat)) (r:List Bool) (e:Nat):List Bool:=(l.take e).foldl je r
theorem K7 (l:List (Nat × Nat)) (r:List Bool) (e:Nat):(kp l r e).length=r.length:=sv (l.take e) r
theorem Ij {l:List (Nat × Nat)} {r:List Bool} {e:Nat} {p:Nat × Nat} (h:l[e]? = some p):kp l r (e + 1)=je (kp l r e) p:=by
 unfold kp;rw [List.take_add_one,h];simp
abbrev ldSt (n:Nat) (l:List (Nat × Nat)) (q e:Nat):St:=
 ⟨[aC 0 n,bJ 1 2 (ox l),(5,⟨[],.sl 1 (dM ((gR n l).take e)) (some 0)⟩),aC 6 e],[],[⟨q,183,1,none⟩]⟩
abbrev agv (n:Nat) (l:List (Nat × Nat)) (q e:Nat) (r:List Bool) (k:Nat):St:=
 ⟨[aC 0 n,bJ 1 2 (ox l),(5,⟨[],.sl 1 (dM ((gR n l).take e)) (some 0)⟩),aC 6 e,(7,⟨[],.ms 0 1 0 n n⟩),aC 8 k],[cB r],[⟨q,183,1,none⟩]⟩
abbrev agw (n:Nat) (l:List (Nat × Nat)) (q e:Nat) (r:List Bool) (k i:Nat):St:=
 ⟨[aC 0 n,bJ 1 2 (ox l),(5,⟨[],.sl 1 (dM ((gR n l).take e)) (some 0)⟩),aC 6 e,(7,⟨[],.ms 0 1 0 n n⟩),aC 8 k,aC 9 i],[cB r],[⟨q,183,1,none⟩]⟩
abbrev agx (n:Nat) (l:List (Nat × Nat)) (q e:Nat) (r:List Bool):St:=
 ⟨[aC 0 n,bJ 1 2 (ox l),aC 6 e,(46,⟨[],.sl 1 (dM ((gR n l).take e)) (some 0)⟩),bJ 47 1 (AH r)],[],[⟨q,183,1,none⟩]⟩
theorem K8 (n:Nat) (hn:n<=64) (l:List (Nat × Nat)) (hP:vT n l) (hb:l.length<=1099511627776) :
  aR prog 113 [.v (.int .i64 n),.sl 2 (ox l) none] (.sl 1 (dM (gR n l)) none):=by
 have hNl:=jc l;have hML:=K5 n l;refine eG 51 [.tmp 4] func113 rfl ntmps113 rfl fun _ _ _ _=>?_;refine lJ (fun e=>ldSt n l e e) n (gw ⟨0,183,1,none⟩ rfl ⟨_,rfl⟩ rfl wA rfl rfl lW) ?_;intro e he;refine br ?_ ?_<;>intro hL
 ·have az:e < n:=by have:=hL;simp at this;exact this
  have hr0l:((List.replicate n false).set e true).length=n:=by simp
  refine ⟨⟨rfl,by omega,by omega,by omega⟩,?_⟩;refine ⟨⟨by omega,by omega⟩,?_⟩;refine ⟨by rw [PL,wv,List.length_replicate];omega,?_⟩
  have ib:((List.replicate (n:Int).toNat (vL [Value.bool false])).flatten).set (0 + (e:Int).toNat * 1) (DV.v (.bool true))=cB (dy l ((List.replicate n false).set e true) 0):=by
   rw [PL,show 0 + (e:Int).toNat * 1=e by omega,show (n:Int).toNat=n by omega,FI];rfl
  refine lJ (fun k=>agv n l e e (dy l ((List.replicate n false).set e true) k) k) n (ej 1 (ng ib) (wB1 ib)) ?_;intro k hk;have gW:=gD l ((List.replicate n false).set e true) k;have ti:=fD l ((List.replicate n false).set e true) k;refine br ?_ ?_<;>intro n7
  ·have il:k < n:=by have:=n7;simp at this;exact this
   generalize dy l ((List.replicate n false).set e true) k=r at gW ti ⊢;rw [hr0l] at gW;refine lJ (fun i=>agw n l e e (kp l r i) k i) l.length (ej 1 tJ lW) ?_;intro i hi;have qJ:=K7 l r i;refine br ?_ ?_<;>intro VF
   ·have hit:i < l.length:=by have:=VF;simp [hNl] at this;exact this
    obtain ⟨p,hp⟩:∃ p,l[i]? = some p:=⟨_,gE hit⟩;obtain ⟨Kg,hp2⟩:=hP p (mG hp);have hss:=Ij (r:=r) hp;obtain ⟨b,mb⟩:∃ b,(kp l r i)[p.1]? = some b:=⟨_,gE (by omega)⟩;have BZ:(kp l r i).getD p.1 false=b:=by simp [eo,mb]
    rw [je,BZ] at hss;refine iX (Ac hp) ?_;refine ⟨⟨by decide,by decide⟩,?_⟩;refine ⟨⟨by omega,by omega⟩,?_⟩;refine ⟨_,(show (cB (kp l r i))[0 + (p.1:Int).toNat * 1]? = some (.v (.bool b)) by rw [show 0 + (p.1:Int).toNat * 1=p.1 by omega];exact TQ mb),?_⟩;refine br ?_ ?_<;>intro g
    ·have g:b=true:=g;rw [zIfP g] at hss;refine iX (Ac hp) ?_;refine ⟨⟨by decide,by decide⟩,?_⟩;refine ⟨⟨by omega,by omega⟩,?_⟩;refine ⟨by rw [wv];omega,?_⟩;have iI:(cB (kp l r i)).set (0 + (p.2:Int).toNat * 1) (DV.v (.bool true))=cB (kp l r (i + 1)):=by grind [FI]
     exact rE ⟨_,by omega,i + 1,rfl,by omega,rfl⟩ (ej 1 (J9 iI (nxt hit (by omega))) (wB2 iI (nxt hit (by omega))))
    ·have g:¬ b=true:=by rw [show b=false from g];decide
     rw [af g] at hss;exact rE ⟨_,by omega,i + 1,rfl,by omega,rfl⟩ (ej 1 (by repeat' (first | exact rfl | exact aA rfl | exact cR (by rw [hss]) | exact aG (nxt hit (by omega)) | refine ⟨_,_,rfl,?_,?_⟩)) (by repeat' (first | exact trivial | exact aA rfl | exact cR (by rw [hss]) | exact aG (nxt hit (by omega)) | refine ⟨⟨_,rfl,?_⟩,?_⟩)))
   ·have hge:i=l.length:=sW hNl VF;subst hge;have SM:kp l r l.length=dy l ((List.replicate n false).set e true) (k + 1):=by rw [ti,kp,List.take_length];all_goals rfl
    exact rE ⟨_,by omega,k + 1,rfl,by omega,rfl⟩ (ej 1 (by repeat' (first | exact rfl | exact aA rfl | exact cR (by rw [SM]) | exact aG (nxt il (by omega)) | refine ⟨_,_,rfl,?_,?_⟩)) (by repeat' (first | exact trivial | exact aA rfl | exact cR (by rw [SM]) | exact aG (nxt il (by omega)) | refine ⟨⟨_,rfl,?_⟩,?_⟩)))
  ·have hge:k=n:=by have:=n7;simp at this;omega
   subst hge;have vw:dy l ((List.replicate k false).set e true) k=yi k l e:=rfl;rw [vw];have hrw:=ue k l e;refine Rf.wk (.JL (st':=agx k l e e (yi k l e)) 0 rfl rfl rfl rfl ?_) rfl rfl ?_
   ·refine ⟨⟨_,rfl,?_⟩,⟨_,rfl,?_⟩,⟨_,rfl,?_⟩,⟨_,rfl,?_⟩,⟨_,rfl,ZD hrw (by omega) rfl⟩,trivial⟩
    ·simp only [Cc]
    ·grind [Cc]
    ·simp only [Cc]
    ·grind [Cc]
   ·have ju:(dM ((gR k l).take e)).length=e:=by rw [AJ,zLenT,hML];omega
    have pz:dM ((gR k l).take e) ++ [[DV.sl 1 (AH (yi k l e)) none]]=dM ((gR k l).take (e + 1)):=by rw [List.take_add_one,K6 l az];simp [dM]
    refine ⟨ju,⟨by rw [ju];simp [maxLen];omega,by rw [ju];simp;omega⟩,?_⟩;exact rE ⟨_,by omega,e + 1,rfl,by omega,rfl⟩ (wkM (wB2 (nxt az (by omega)) pz))
 ·have hge:e=n:=by have:=hL;simp at this;omega
  subst hge;have ht:(gR e l).take e=gR e l:=by rw [List.take_of_length_le (by rw [hML];omega)]
  rw [ht];exact ⟨_,ax,rfl⟩
theorem ei {n m:Nat} {Zi:List TkE} {x y:Bool} (h:x=y):We n m Zi (.v (.bool x)) (.v (.bool y)):=.inl ⟨by rw [h],rfl⟩
theorem qb {l:List Wd} {j:Nat} {w:Wd} (h:l[j]? = some w):(aF l)[j]? = some w.s:=by simp [aF,h]
theorem NI {L:List ByteArray} {s:ByteArray} (h:∀ j,j < L.length->L[j]? ≠ some s):dC L s=none:=vV fun j hj=>by grind
abbrev ZE (l:List Wd) (s:ByteArray) (e:Nat):St:=
 ⟨[bJ 0 2 (bA l),(1,⟨[],.v (.string s)⟩),aC 5 e],[],[]⟩
theorem gF (l:List Wd) (s:ByteArray) (hs:wdsWt l<=1099511627776) :
  aR prog 188 [.sl 2 (bA l) none,.v (.string s)] (.v (.int .i64 (oz (dC (aF l) s)))):=by
 have qJ:=bW l;have ir:=ee l;refine eG 20 [.tmp 4] func188 rfl ntmps188 rfl fun _ _ _ _=>?_;refine lI (fun j st=>∃ e:Nat,st=ZE l s e/\e<=l.length/\(∀ j,j < e->(aF l)[j]? ≠ some s)/\j=l.length - e) ⟨0,rfl,by omega,fun _ h=>by omega,rfl⟩ (wkM wB) ?_;rintro j st ⟨e,rfl,he,hno,rfl⟩;refine br ?_ ?_<;>intro hL
 ·have az:e < l.length:=by simpa [aD] using hL
  obtain ⟨w,hw⟩:=gX az;refine ⟨jK w,⟨by omega,bn hw⟩,?_⟩;refine br ?_ ?_<;>intro hq
  ·have hq:w.s=s:=sU hq;rw [Fx (p:=e) (by rw [qb hw,hq]) (fun j hj=>Nat.le_of_not_lt fun hl=>hno j hl hj)];exact (rfl:_=_)
  ·have hq:¬ w.s=s:=sU hq;refine ⟨ZE l s (e + 1),(wkM (wB1 (nxt az (by omega)))),l.length - (e + 1),by omega,e + 1,rfl,by omega,fun j hj=>?_,rfl⟩;rcases rP hj with hj | rfl
   ·exact hno j hj
   ·rw [qb hw];simpa using hq
 ·have hge:e=l.length:=by have:=hL;simp [aD] at this;omega
  rw [NI (fun j hj=>hno j (by omega))];exact (rfl:_=_)
theorem gT {o:Option Nat}:decide (oz o < 0)=true↔o=none:=by
 cases o with
 | none=>simp [oz]
 | some k=>grind [oz]
theorem Ik {L:List ByteArray}:∀ {o:List (Wd × Wd)},(numF L o).1=0->∀ x∈o,(∃ a,dC L x.1.s=some a)/\∃ b,dC L x.2.s=some b
 | [],_,x,hx=>by cases hx
 | p :: r,h,x,hx=>by
  rw [numF] at h;split at h
  ·exact absurd h (by simp)
  rename_i h1;split at h
  ·exact absurd h (by simp)
  rename_i h2;rcases eU hx with rfl | hx
  ·exact ⟨Option.ne_none_iff_exists'.1 h1,Option.ne_none_iff_exists'.1 h2⟩
  ·exact Ik h x hx
abbrev agB (l:List Wd) (o:List (Wd × Wd)) (q e:Nat):St:=
 ⟨[bJ 0 2 (bA l),bJ 1 4 (ez o),(5,⟨[],.sl 2 (ox (dL (aF l) (o.take e))) (some 0)⟩),aC 6 e],[],[⟨q,285,2,none⟩]⟩
theorem K9 (l:List Wd) (o:List (Wd × Wd)) (hs:wdsWt l<=1099511627776) (Cy:prsWt o<=1099511627776) (hF:(numF (aF l) o).1=0) :
  aR prog 114 [.sl 2 (bA l) none,.sl 4 (ez o) none] (.sl 2 (ox (dL (aF l) o)) none):=by
 have qJ:=kQ o;refine eG 34 [.tmp 4] func114 rfl ntmps114 rfl fun _ _ _ _=>?_;refine lJ (fun e=>agB l o e e) o.length (gw ⟨0,285,2,none⟩ rfl ⟨_,rfl⟩ rfl wA rfl rfl lW) ?_;intro e he;refine br ?_ ?_<;>intro hL
 ·have az:e < o.length:=by simpa [dn] using hL
  obtain ⟨w,hw⟩:=gX az;obtain ⟨⟨a,ha⟩,⟨b,hb⟩⟩:=Ik hF w (mG hw);have WS:=gF l w.1.s hs;have BW:=gF l w.2.s hs;rw [ha] at WS;rw [hb] at BW;refine dI ?_;refine ⟨Nh w,⟨by omega,ja hw⟩,?_⟩;refine cD zG WS ?_;refine ⟨Nh w,⟨by omega,ja hw⟩,?_⟩;refine cD zG BW ?_;refine ⟨by simp [jc,dL];omega,⟨by simp [jc,dL,maxLen];omega,by simp [jc,dL];omega⟩,?_⟩;exact rE ⟨_,by omega,e + 1,rfl,by omega,rfl⟩ (wkM (wB2 (nxt az (by omega)) (Dj hw ha hb)))
 ·have hge:e=o.length:=by
   have:=hL;simp [dn] at this;omega
  have ht:o.take e=o:=by rw [hge,List.take_length]
  rw [ht];exact ⟨_,ax,rfl⟩
theorem Il (l:List Wd) (o:List (Wd × Wd)) (hl:l.length<=32) (hs:wdsWt l<=1099511627776) (Cy:prsWt o<=1099511627776) (hF:(numF (aF l) o).1=0) :
  aR prog 49 [.sl 2 (bA l) none,.sl 4 (ez o) none] (.sl 1 (dM (eS l.length (fC l.length (dL (aF l) o)))) none):=by
 have qJ:=kQ o;have hP:vT l.length (dL (aF l) o):=by have:=qT hF;rwa [ee] at this
 have hN:=aD l;have SG:=K8 l.length (by omega) (dL (aF l) o) hP (by simp [dL];omega);rw [PM hP] at SG;refine eG 11 [.tmp 4] func49 rfl ntmps49 rfl fun _ _ _ _=>?_;refine cP aes (K9 l o hs Cy hF) ?_;rw [hN];refine cP aer SG ?_;exact ⟨_,ax,rfl⟩
theorem Im (n:Nat) (f:Nat->Nat->Bool):(eS n f).length=n:=by simp [eS]
theorem kT (n:Nat) (f:Nat->Nat->Bool):(dM (eS n f)).length=n:=by rw [AJ,Im]
theorem fM {n:Nat} {f:Nat->Nat->Bool} {a:Nat} (ha:a < n):(dM (eS n f))[a]? = some [DV.sl 1 (AH ((List.range n).map (f a))) none]:=TR (HS ha)
theorem eE {n:Nat} {f:Nat->Nat->Bool} {a b:Nat} (hb:b < n):(AH ((List.range n).map (f a)))[b]? = some [DV.v (.bool (f a b))]:=NH (by simp [List.getElem?_range hb])
abbrev ZF (n:Nat) (f:Nat->Nat->Bool) (e:Nat):St:=
 ⟨[bJ 0 1 (dM (eS n f)),aC 3 e],[],[]⟩
abbrev abH (n:Nat) (f:Nat->Nat->Bool) (e k:Nat):St:=
 ⟨[bJ 0 1 (dM (eS n f)),aC 3 e,aC 4 k],[],[]⟩
theorem Io (n:Nat) (f:Nat->Nat->Bool) (hn:n<=64) :
  aR prog 189 [.sl 1 (dM (eS n f)) none] (.v (.int .i64 (oz (cA (mn n f) n)))):=by
 have ju:=kT n f;refine eG 39 [.tmp 2] func189 rfl ntmps189 rfl fun _ _ _ _=>?_;refine lI (fun j st=>∃ e:Nat,st=ZF n f e/\e<=n/\(∀ a,a < e->mn n f a=false)/\j=n - e) ⟨0,rfl,by omega,fun _ h=>by omega,rfl⟩ (wkM wB) ?_;rintro j st ⟨e,rfl,he,hno,rfl⟩;refine br ?_ ?_<;>intro hL
 ·have az:e < n:=sV ju hL;refine lI (fun j st=>∃ k:Nat,st=abH n f e k/\k<=n/\(∀ b,b < k->(decide (e≠b) && (f e b && f b e))=false)/\j=n - k) ⟨0,rfl,by omega,fun _ h=>by omega,rfl⟩ (wkM wB) ?_;rintro j st ⟨k,rfl,hk,uu,rfl⟩;refine br ?_ ?_<;>intro n7
  ·have il:k < n:=sV ju n7;have rF:(decide (e≠k) && (f e k && f k e))=false->∀ b,b < k + 1->(decide (e≠b) && (f e b && f b e))=false:=fun h b hb=>by grind
   refine br ?_ ?_<;>intro g1
   ·have g1:e≠k:=by have:=g1;simp at this;omega
    refine iX (fM az) ?_;refine iX (eE il) ?_;refine br ?_ ?_<;>intro g2
    ·have g2:f e k=true:=by simpa [pickB] using g2
     refine iX (fM il) ?_;refine iX (eE az) ?_;refine br ?_ ?_<;>intro g3
     ·have g3:f k e=true:=by simpa [pickB] using g3
      have hp:mn n f e=true:=List.any_eq_true.2 ⟨k,List.mem_range.2 il,by simp [g1,g2,g3]⟩;rw [dR az hp hno];exact (rfl:_=_)
     ·have g3:f k e=false:=by simpa [pickB] using g3
      exact rE ⟨_,by omega,k + 1,rfl,by omega,rF (by simp [g3]),rfl⟩ (wkM (wB1 (nxt il (by omega))))
    ·have g2:f e k=false:=by simpa [pickB] using g2
     exact rE ⟨_,by omega,k + 1,rfl,by omega,rF (by simp [g2]),rfl⟩ (wkM (wB1 (nxt il (by omega))))
   ·have g1:e=k:=by have:=g1;simp at this;omega
    exact rE ⟨_,by omega,k + 1,rfl,by omega,rF (by simp [g1]),rfl⟩ (wkM (wB1 (nxt il (by omega))))
  ·have hge:k=n:=sW ju n7;refine ⟨ZF n f (e + 1),(wkM (wB1 (nxt az (by omega)))),n - (e + 1),by omega,e + 1,rfl,by omega,fun j hj=>?_,rfl⟩;rcases rP hj with hj | rfl
   ·exact hno j hj
   ·grind [mn]
 ·have hge:e=n:=sW ju hL;subst hge;rw [eI hno];exact (rfl:_=_)
abbrev tuSt (n:Nat) (f:Nat->Nat->Bool) (q e:Nat):St:=
 ⟨[bJ 0 1 (dM (eS n f)),(3,⟨[],.sl 1 (dM ((eS n fun a b=>f b a).take e)) (some 0)⟩),aC 4 e],[],[⟨q,183,1,none⟩]⟩
abbrev agC (n:Nat) (f:Nat->Nat->Bool) (q e:Nat) (r:List Bool) (k:Nat):St:=
 ⟨[bJ 0 1 (dM (eS n f)),(3,⟨[],.sl 1 (dM ((eS n fun a b=>f b a).take e)) (some 0)⟩),aC 4 e,(5,⟨[],.ms 0 1 0 n n⟩),aC 6 k],[cB r],[⟨q,183,1,none⟩]⟩
abbrev agD (n:Nat) (f:Nat->Nat->Bool) (q e:Nat) (r:List Bool):St:=
 ⟨[bJ 0 1 (dM (eS n f)),aC 4 e,(32,⟨[],.sl 1 (dM ((eS n fun a b=>f b a).take e)) (some 0)⟩),bJ 33 1 (AH r)],[],[⟨q,183,1,none⟩]⟩
def nG (n:Nat) (f:Nat->Nat->Bool) (e k:Nat):List Bool:=(List.range n).map fun b=>if b < k then f b e else false
theorem wx (n:Nat) (f:Nat->Nat->Bool) (e k:Nat):(nG n f e k).length=n:=by simp [nG]
theorem La (n:Nat) (f:Nat->Nat->Bool) (e:Nat):nG n f e 0=List.replicate n false:=by
 refine List.ext_getElem? fun i=>?_
 grind [nG,wx]
theorem Lb (n:Nat) (f:Nat->Nat->Bool) (e k:Nat):(nG n f e k).set k (f k e)=nG n f e (k + 1):=by
 refine List.ext_getElem? fun i=>?_
 grind [nG,wx]
theorem Lc (n:Nat) (f:Nat->Nat->Bool) (e:Nat):nG n f e n=(List.range n).map (fun b=>f b e):=by simp_all [nG]
theorem PN (n:Nat) (f:Nat->Nat->Bool) (hn:n<=64) :
  aR prog 190 [.sl 1 (dM (eS n f)) none] (.sl 1 (dM (eS n fun a b=>f b a)) none):=by
 have ju:=kT n f;have hML:=Im n fun a b=>f b a;refine eG 37 [.tmp 2] func190 rfl ntmps190 rfl fun _ _ _ _=>?_;refine lJ (fun e=>tuSt n f e e) n (gw ⟨0,183,1,none⟩ rfl ⟨_,rfl⟩ rfl wA rfl rfl lW) ?_;intro e he;refine br ?_ ?_<;>intro hL
 ·have az:e < n:=sV ju hL;refine ⟨⟨rfl,by omega,by rw [ju];omega,by rw [ju];omega⟩,?_⟩;rw [ju];have ib:(List.replicate (n:Int).toNat (vL [Value.bool false])).flatten=cB (nG n f e 0):=by grind [PL,La]
  refine lJ (fun k=>agC n f e e (nG n f e k) k) n (ej 1 (ng ib) (wB1 ib)) ?_;intro k hk;refine br ?_ ?_<;>intro n7
  ·have il:k < n:=sV ju n7;refine iX (fM il) ?_;refine iX (eE az) ?_;refine ⟨⟨by omega,by omega⟩,?_⟩;refine ⟨by rw [wv,wx];omega,?_⟩
   have iI:(cB (nG n f e k)).set (0 + (k:Int).toNat * 1) (DV.v (.bool (f (k:Int).toNat (e:Int).toNat)))=cB (nG n f e (k + 1)):=by
    rw [show 0 + (k:Int).toNat * 1=k by omega,FI,dV,dV,Lb]
   exact rE ⟨_,by omega,k + 1,rfl,by omega,rfl⟩ (ej 1 (J9 iI (nxt il (by omega))) (wB2 iI (nxt il (by omega))))
  ·have hge:k=n:=sW ju n7;subst hge;rw [Lc];refine Rf.wk (.JL (st':=agD k f e e ((List.range k).map fun b=>f b e)) 0 rfl rfl rfl rfl ?_) rfl rfl ?_
   ·refine ⟨⟨_,rfl,?_⟩,⟨_,rfl,?_⟩,⟨_,rfl,?_⟩,⟨_,rfl,ZD (by simp) (by omega) rfl⟩,trivial⟩
    ·grind [Cc]
    ·simp only [Cc]
    ·grind [Cc]
   ·have hmr:(dM ((eS k fun a b=>f b a).take e)).length=e:=by rw [AJ,zLenT,hML];omega
    have pz:dM ((eS k fun a b=>f b a).take e) ++ [[DV.sl 1 (AH ((List.range k).map fun b=>f b e)) none]]=dM ((eS k fun a b=>f b a).take (e + 1)):=by rw [List.take_add_one,HS az];simp [dM]
    refine ⟨hmr,⟨by rw [hmr];simp [maxLen];omega,by rw [hmr];simp;omega⟩,?_⟩;exact rE ⟨_,by omega,e + 1,rfl,by omega,rfl⟩ (wkM (wB2 (nxt az (by omega)) pz))
 ·have hge:e=n:=sW ju hL;subst hge;rw [List.take_of_length_le (by rw [hML];omega)];exact ⟨_,ax,rfl⟩
def ZG (f:Nat->Nat->Bool) (n a b c:Nat):Bool:=(f a c && f b c) && (List.range n).all fun d=>!(f a d && f b d) || f c d
def nH (f:Nat->Nat->Bool) (n a b:Nat):Option Nat:=cA (ZG f n a b) n
def pu (f:Nat->Nat->Bool) (a b c k:Nat):Bool:=(f a c && f b c) && (List.range k).all fun d=>!(f a d && f b d) || f c d
theorem PO (f:Nat->Nat->Bool) (a b c k:Nat):pu f a b c (k + 1)=(pu f a b c k && (!(f a k && f b k) || f c k)):=by
 simp only [pu,List.range_succ,List.all_append,List.all_cons,List.all_nil,Bool.and_true,Bool.and_assoc]
theorem DG (f:Nat->Nat->Bool) (a b c:Nat):pu f a b c 0=(f a c && f b c):=by simp [pu]
abbrev agE (n:Nat) (f:Nat->Nat->Bool) (a b e:Nat):St:=
 ⟨[bJ 0 1 (dM (eS n f)),aC 1 a,aC 2 b,aC 7 e],[],[]⟩
abbrev NJ (n:Nat) (f:Nat->Nat->Bool) (a b e:Nat) (x:Bool) (k:Nat):St:=
 ⟨[bJ 0 1 (dM (eS n f)),aC 1 a,aC 2 b,aC 7 e,zt 8 x,aC 9 k],[],[]⟩
theorem xL (n:Nat) (f:Nat->Nat->Bool) (hn:n<=64) (a b:Nat) (ha:a < n) (hb:b < n) :
  aR prog 191 [.sl 1 (dM (eS n f)) none,.v (.int .i64 a),.v (.int .i64 b)] (.v (.int .i64 (oz (nH f n a b)))):=by
 have ju:=kT n f;refine eG 66 [.tmp 6] func191 rfl ntmps191 rfl fun _ _ _ _=>?_;refine lI (fun j st=>∃ e:Nat,st=agE n f a b e/\e<=n/\(∀ c,c < e->ZG f n a b c=false)/\j=n - e) ⟨0,rfl,by omega,fun _ h=>by omega,rfl⟩ (wkM wB) ?_;rintro j st ⟨e,rfl,he,hno,rfl⟩;refine br ?_ ?_<;>intro hL
 ·have az:e < n:=sV ju hL;refine iX (fM ha) ?_;refine iX (eE az) ?_;have e1:(f a e == true)=true->f b e=pu f a b e 0:=fun g=>by rw [DG,show f a e=true by simpa using g];simp
  have e2:(f a e == true)=false->false=pu f a b e 0:=fun g=>by rw [DG,show f a e=false by simpa using g];simp
  refine have body:=?_;br (fun g1=>⟨_,⟨by omega,fM hb⟩,⟨_,⟨by omega,eE az⟩,aY (fun j st=>∃ k:Nat,st=NJ n f a b e (pu f a b e k) k/\k<=n/\j=n - k) n (NJ n f a b e (pu f a b e 0) 0) (wkM (by repeat' (first | exact trivial | exact aA rfl | exact (show We _ _ _ (DV.v (.bool (f b e))) _ from ei (e1 g1)) | refine ⟨⟨_,rfl,?_⟩,?_⟩))) ⟨0,rfl,by omega,by omega⟩ body⟩⟩) (fun g1=>aY (fun j st=>∃ k:Nat,st=NJ n f a b e (pu f a b e k) k/\k<=n/\j=n - k) n (NJ n f a b e (pu f a b e 0) 0) (wkM (by repeat' (first | exact trivial | exact aA rfl | exact (show We _ _ _ (DV.v (.bool false)) _ from ei (e2 g1)) | refine ⟨⟨_,rfl,?_⟩,?_⟩))) ⟨0,rfl,by omega,by omega⟩ body);rintro j st ⟨k,rfl,hk,rfl⟩;refine br ?_ ?_<;>intro n7
  ·have il:k < n:=sV ju n7;have ZH:=PO f a b e k;refine iX (fM ha) ?_;refine iX (eE il) ?_;refine br ?_ ?_<;>intro g1
   ·refine iX (fM hb) ?_;refine iX (eE il) ?_;refine br ?_ ?_<;>intro g2
    ·refine iX (fM az) ?_;refine iX (eE il) ?_;refine br ?_ ?_<;>intro g3
     ·have hx:false=pu f a b e (k + 1):=by simp [pickB] at g1 g2 g3;rw [ZH];simp [g1,g2,g3]
      exact rE ⟨_,by omega,k + 1,rfl,by omega,rfl⟩ (wkM (wB2 (nxt il (by omega)) hx))
     ·have hx:pu f a b e k=pu f a b e (k + 1):=by simp [pickB] at g1 g2 g3;rw [ZH];simp [g1,g2,g3]
      exact rE ⟨_,by omega,k + 1,rfl,by omega,rfl⟩ (wkM (wB2 (nxt il (by omega)) hx))
    ·have hx:pu f a b e k=pu f a b e (k + 1):=by simp [pickB] at g1 g2;rw [ZH];simp [g1,g2]
     exact rE ⟨_,by omega,k + 1,rfl,by omega,rfl⟩ (wkM (wB2 (nxt il (by omega)) hx))
   ·have hx:pu f a b e k=pu f a b e (k + 1):=by simp [pickB] at g1;rw [ZH];simp [g1]
    exact rE ⟨_,by omega,k + 1,rfl,by omega,rfl⟩ (wkM (wB2 (nxt il (by omega)) hx))
  ·have hge:k=n:=sW ju n7;subst hge;refine br ?_ ?_<;>intro g
   ·have g:ZG f k a b e=true:=g;rw [nH,dR az g hno];exact (rfl:_=_)
   ·have g:ZG f k a b e=false:=g;refine ⟨agE k f a b (e + 1),(wkM (wB1 (nxt az (by omega)))),k - (e + 1),by omega,e + 1,rfl,by omega,fun j hj=>?_,rfl⟩;rcases rP hj with hj | rfl
    ·exact hno j hj
    ·exact g
 ·have hge:e=n:=sW ju hL;subst hge;rw [nH,eI hno];exact (rfl:_=_)
theorem TS {l:List Wd} {i:Nat} {w:Wd} (hw:l[i]? = some w):∃ p,dC (aF l) w.s=some p/\(p < i↔c8 (l.take i) w.s=true):=by
 cases h:dC (aF l) w.s with
 | none=>exact absurd (mG (qb hw)) (Ca.1 h)
 | some p=>
  refine ⟨p,rfl,?_⟩;obtain ⟨h1,h2,h3⟩:=dX h;rw [ee] at h1;have mK:∃ v,l[p]? = some v/\v.s=w.s:=by grind [qb]
  obtain ⟨v,hv,vu⟩:=mK;unfold c8;rw [List.any_eq_true];refine ⟨fun az=>⟨v,mG (i:=p) (by rw [cJ,zIfP az];exact hv),by simp [vu]⟩,fun ⟨x,hx,CA⟩=>?_⟩;obtain ⟨j,hj⟩:=List.getElem?_of_mem hx
  grind [qb]
theorem FJ {f:Nat->Nat->Bool} {n a b c:Nat}:ZG f n a b c=true↔f a c=true/\f b c=true/\∀ d,d < n->f a d=true->f b d=true->f c d=true:=by grind [ZG]
structure Xi (f:Nat->Nat->Bool) (n:Nat):Prop where
 rfl':∀ a,a < n->f a a=true
 KN:∀ a b,a < n->b < n->f a b=true->f b a=true->a=b
theorem Xi.flip {f:Nat->Nat->Bool} {n:Nat} (h:Xi f n):Xi (fun x y=>f y x) n:=⟨h.rfl',fun a b ha hb h1 h2=>h.KN a b ha hb h2 h1⟩
theorem TU {f:Nat->Nat->Bool} {n a b c:Nat} (h:Xi f n) (hc:c < n) (hj:ZG f n a b c=true):gk f n a b=some c:=by
 obtain ⟨h1,h2,h3⟩:=FJ.1 hj
 have key:∀ e,e<=n->c < e->bestA (fun c=>f a c && f b c) f e=some c:=by
  intro e
  induction e with
  | zero=>intro _ h;omega
  | succ e ih=>
   intro he GD;rw [bestA];by_cases hec:e=c
   ·subst hec;rw [zIfP];simp only [h1,h2,Bool.and_true,Bool.true_and]
    cases ho:bestA (fun c=>f a c && f b c) f e with
    | none=>rfl
    | some o=>
     have hp:=v7 ho;have hl:=pW ho;simp only [bh] at hp;exact h3 o (by omega) hp.1 hp.2
   ·rw [ih (by omega) (by omega),af];simp only [bh,HV,not_and];intro hp hec2;exact hec (h.KN e c (by omega) hc hec2 (h3 e (by omega) hp.1 hp.2))
 grind [gk,pV]
theorem uv {f:Nat->Nat->Bool} {n a b:Nat} (h:Xi f n):(gk f n a b).isNone=(nH f n a b).isNone:=by
 cases hj:nH f n a b with
 | some c=>
  obtain ⟨hc,hi,_⟩:=gC hj;rw [TU h hc hi]
 | none=>
  cases hk:gk f n a b with
  | none=>rfl
  | some k=>
   obtain ⟨h1,h2,h3,h4⟩:=Aw hk;have:=eD hj k h1;rw [FJ.2 ⟨h2,h3,h4⟩] at this;cases this
def rJ (f:Nat->Nat->Bool) (n a b:Nat):Bool:=(nH f n a b).isNone || (nH (fun x y=>f y x) n a b).isNone
theorem NK {f:Nat->Nat->Bool} {n a b:Nat} (h:Xi f n):nB f n a b=rJ f n a b:=by
 unfold nB rJ;rw [uv h,show j7 f n a b=gk (fun x y=>f y x) n a b from rfl,uv h.flip]
theorem AK {f:Nat->Nat->Bool} {n b:Nat} (h:Xi f n) (hb:b < n):(nH f n b b).isNone=false:=by
 have hi:ZG f n b b b=true:=FJ.2 ⟨h.rfl' b hb,h.rfl' b hb,fun d _ h1 _=>h1⟩
 cases hj:nH f n b b with
 | some c=>rfl
 | none=>rw [eD hj b hb] at hi;cases hi
theorem Xj {f:Nat->Nat->Bool} {n b:Nat} (h:Xi f n) (hb:b < n):pX f n b=(List.range b).any fun a=>rJ f n a b:=by
 unfold pX;rw [List.range_succ,List.any_append];simp only [List.any_cons,List.any_nil,Bool.or_false];rw [NK h,show rJ f n b b=false by unfold rJ;rw [AK h hb,AK h.flip hb];rfl,Bool.or_false]
 grind [NK]
theorem abI {n:Nat} {l:List (Nat × Nat)} (hP:vT n l) (h4:cA (mn n (fC n l)) n=none):Xi (fC n l) n where
 rfl':=fun a ha=>vU hP ha
 KN:=fun a b ha hb h6 h7=>by grind [eD,mn]
abbrev agF (l:List Wd) (o:List (Wd × Wd)) (e:Nat):St:=
 ⟨[bJ 0 2 (bA l),bJ 1 4 (ez o),aJ 4 0,aC 5 e],[[.v (.int .i64 0),.v (.int .i64 0)]],[]⟩
abbrev agG (l:List Wd) (o:List (Wd × Wd)) (e:Nat):St:=
 ⟨[bJ 0 2 (bA l),bJ 1 4 (ez o),aJ 4 0,aC 6 e],[[.v (.int .i64 0),.v (.int .i64 0)]],[]⟩
abbrev ZI (l:List Wd) (n:Nat) (f:Nat->Nat->Bool) (e:Nat):St:=
 ⟨[bJ 0 2 (bA l),aJ 4 0,bJ 7 1 (dM (eS n f)),bJ 9 1 (dM (eS n fun a b=>f b a)),aC 10 e],[[.v (.int .i64 0),.v (.int .i64 0)]],[]⟩
abbrev ZJ (l:List Wd) (n:Nat) (f:Nat->Nat->Bool) (e k:Nat):St:=
 ⟨[bJ 0 2 (bA l),aJ 4 0,bJ 7 1 (dM (eS n f)),bJ 9 1 (dM (eS n fun a b=>f b a)),aC 10 e,aC 11 k],[[.v (.int .i64 0),.v (.int .i64 0)]],[]⟩
theorem FK (l:List Wd) (o:List (Wd × Wd)) (hs:wdsWt l<=1099511627776) (Cy:prsWt o<=1099511627776) :
  aR prog 104 [.sl 2 (bA l) none,.sl 4 (ez o) none] (latF l o).d:=by
 have qJ:=bW l;have hsl2:=kQ o;have hF:latF l o=latF l o:=rfl
 conv at hF=>rhs;unfold latF
 refine eG 150 [.cell 4 26] func104 rfl ntmps104 rfl fun _ _ _ _=>?_;generalize latF l o=F at hF ⊢;refine br ?_ ?_<;>intro h
 ·have h:l=[]:=by simpa [aD] using h
  rw [show hU l o=(15,0) by rw [hU,zIfP h],zIfP (by decide)] at hF;refine ⟨_,?_,rfl⟩;rw [hF];exact ax
 have h:¬ l=[]:=by simpa [aD] using h
 refine br ?_ ?_<;>intro h1
 ·have h1:32 < l.length:=by simp [aD] at h1;omega
  obtain ⟨x,hx⟩:∃ x,l[32]? = some x:=⟨_,gE h1⟩;rw [show hU l o=(8,x.a) by rw [hU,af h,zIfP h1,hx];rfl,zIfP (by simp)] at hF;refine ⟨jK x,⟨by omega,bn hx⟩,?_⟩;refine ⟨_,?_,rfl⟩;rw [hF];exact ax
 have h1:¬ 32 < l.length:=by simp [aD] at h1;omega
 refine br ?_ ?_<;>intro h2
 ·have h2:256 < o.length:=by simp [dn] at h2;omega
  obtain ⟨x,hx⟩:∃ x,o[256]? = some x:=⟨_,gE h2⟩;rw [show hU l o=(8,x.1.a) by rw [hU,af h,af h1,zIfP h2,hx];rfl,zIfP (by simp)] at hF;refine ⟨Nh x,⟨by omega,ja hx⟩,?_⟩;refine ⟨_,?_,rfl⟩;rw [hF];exact ax
 have h2:¬ 256 < o.length:=by simp [dn] at h2;omega
 rw [show hU l o=(0,0) by rw [hU,af h,af h1,af h2],af (by decide)] at hF;have h0:enumL l 0 l=enumL l 0 (l.drop 0):=rfl;refine lI (fun j st=>∃ e:Nat,st=agF l o e/\e<=l.length/\enumL l 0 l=enumL l e (l.drop e)/\j=l.length - e) ⟨0,rfl,by omega,rfl,rfl⟩ (wkM wB) ?_;rintro j st ⟨e,rfl,he,aQ,rfl⟩;refine br ?_ ?_<;>intro hL
 ·have az:e < l.length:=by simpa [aD] using hL
  obtain ⟨w,hw⟩:=gX az;have VB:=jJ (mG hw);have hst:enumL l e (l.drop e)=if aK l e w≠0 then (aK l e w,w.a) else enumL l (e + 1) (l.drop (e + 1)):=by rw [drop_cons hw,enumL]
  obtain ⟨p,hp,QO⟩:=TS hw;have hf:=gF l w.s hs;rw [hp] at hf;refine ⟨jK w,⟨by omega,bn hw⟩,?_⟩;refine cP MW (mg w.s (by omega)) ?_;refine br ?_ ?_<;>intro hN
  ·have hN:bM w.s=false:=sU hN;have hf:aK l e w=9:=by simp [aK,hN]
   rw [aQ,hst,hf,zIfP (show (9:Int)≠0 by decide),zIfP (by simp)] at hF;refine ⟨jK w,⟨by omega,bn hw⟩,?_⟩;refine ⟨_,?_,rfl⟩;rw [hF];exact ax
  ·have hN:bM w.s=true:=sU hN;refine ⟨jK w,⟨by omega,bn hw⟩,?_⟩;refine cP zG hf ?_;refine br ?_ ?_<;>intro h2
   ·have h2:p < e:=by have:=h2;simp [oz] at this;exact this
    have hf:aK l e w=10:=by simp [aK,hN,QO.1 h2]
    rw [aQ,hst,hf,zIfP (show (10:Int)≠0 by decide),zIfP (by simp)] at hF;refine ⟨jK w,⟨by omega,bn hw⟩,?_⟩;refine ⟨_,?_,rfl⟩;rw [hF];exact ax
   ·have h2:¬ p < e:=by have:=h2;simp [oz] at this;omega
    have hd:c8 (l.take e) w.s=false:=by grind
    have hf:aK l e w=0:=by simp [aK,hN,hd]
    rw [hf,af (by simp)] at hst;exact rE ⟨_,by omega,e + 1,rfl,by omega,by rw [aQ,hst],rfl⟩ (wkM (wB1 (nxt az (by omega))))
 have hge:e=l.length:=by have:=hL;simp [aD] at this;omega
 rw [aQ,hge,List.drop_length,show enumL l l.length []=(0,0) from rfl,af (by decide)] at hF;refine lI (fun j st=>∃ e:Nat,st=agG l o e/\e<=o.length/\numF (aF l) o=numF (aF l) (o.drop e)/\j=o.length - e) ⟨0,rfl,by omega,rfl,rfl⟩ (wkM wB) ?_;clear aQ hL hge he e;rintro j st ⟨e,rfl,he,aQ,rfl⟩;refine br ?_ ?_<;>intro hL
 ·have az:e < o.length:=by simpa [dn] using hL
  obtain ⟨w,hw⟩:=gX az;have hst:numF (aF l) (o.drop e)=if dC (aF l) w.1.s=none then (17,w.1.a) else if dC (aF l) w.2.s=none then (17,w.2.a) else numF (aF l) (o.drop (e + 1)):=by rw [drop_cons hw,numF]
  refine ⟨Nh w,⟨by omega,ja hw⟩,?_⟩;refine cP zG (gF l w.1.s hs) ?_;refine br ?_ ?_<;>intro ha
  ·have ha:=gT.1 ha;rw [aQ,hst,zIfP ha,zIfP (by simp)] at hF;refine ⟨Nh w,⟨by omega,ja hw⟩,?_⟩;refine ⟨_,?_,rfl⟩;rw [hF];exact ax
  have ha:¬ dC (aF l) w.1.s=none:=fun hn=>by have:=gT.2 hn;rw [ha] at this;cases this
  refine ⟨Nh w,⟨by omega,ja hw⟩,?_⟩;refine cP zG (gF l w.2.s hs) ?_;refine br ?_ ?_<;>intro hb
  ·have hb:=gT.1 hb;rw [aQ,hst,af ha,zIfP hb,zIfP (by simp)] at hF;refine ⟨Nh w,⟨by omega,ja hw⟩,?_⟩;refine ⟨_,?_,rfl⟩;rw [hF];exact ax
  have hb:¬ dC (aF l) w.2.s=none:=fun hn=>by have:=gT.2 hn;rw [hb] at this;cases this
  rw [af ha,af hb] at hst;exact rE ⟨_,by omega,e + 1,rfl,by omega,by rw [aQ,hst],rfl⟩ (wkM (wB1 (nxt az (by omega))))
 have hge:e=o.length:=by have:=hL;simp [dn] at this;omega
 rw [hge,List.drop_length,show numF (aF l) []=(0,0) from rfl] at aQ;rw [aQ,af (by decide)] at hF;have tj:(numF (aF l) o).1=0:=by rw [aQ]
 have hP:vT l.length (dL (aF l) o):=by have:=qT tj;rwa [ee] at this
 have hpo:=abI hP;have ju:=kT l.length (fC l.length (dL (aF l) o));refine cP aaR (Il l o (by omega) hs Cy tj) ?_;generalize fC l.length (dL (aF l) o)=f at hF hpo ju ⊢;refine cP aeF (Io l.length f (by omega)) ?_
 cases hlo:cA (mn l.length f) l.length with
 | some a=>
  rw [hlo] at hF;have ha:=(gC hlo).1;obtain ⟨x,hx⟩:∃ x,l[a]? = some x:=⟨_,gE ha⟩;simp only [mq hx] at hF;refine ⟨jK x,⟨by simp only [oz];omega,bn hx⟩,?_⟩;refine ⟨_,?_,rfl⟩;rw [hF];exact ax
 | none=>
 have hpo:=hpo hlo;rw [hlo] at hF;simp only at hF;refine cP aeG (PN l.length f (by omega)) ?_;refine lI (fun j st=>∃ e:Nat,st=ZI l l.length f e/\e<=l.length/\(∀ b,b < e->pX f l.length b=false)/\j=l.length - e) ⟨0,rfl,by omega,fun _ h=>by omega,rfl⟩ (wkM wB) ?_;clear aQ hL hge he e;rintro j st ⟨e,rfl,he,hno,rfl⟩;refine br ?_ ?_<;>intro hL
 ·have az:e < l.length:=sV ju hL;have jI:=Xj hpo az;refine lI (fun j st=>∃ k:Nat,st=ZJ l l.length f e k/\k<=e/\(∀ a,a < k->rJ f l.length a e=false)/\j=e - k) ⟨0,rfl,by omega,fun _ h=>by omega,rfl⟩ (wkM wB) ?_;rintro j st ⟨k,rfl,hk,uu,rfl⟩;refine br ?_ ?_<;>intro n7
  ·have il:k < e:=sU n7;obtain ⟨x,hx⟩:=gX az
   have Ip:rJ f l.length k e=true->F=(12,x.a):=fun hlk=>by
    rw [dR az (by rw [jI,List.any_eq_true];exact ⟨k,by simpa using il,hlk⟩) hno] at hF;simp only [mq hx] at hF;exact hF
   refine cP YH (xL l.length f (by omega) k e (by omega) az) ?_;refine br ?_ ?_<;>intro g1
   ·have g1:¬ nH f l.length k e=none:=fun hn=>by rw [gT.2 hn] at g1;cases g1
    refine cP YH (xL l.length (fun a b=>f b a) (by omega) k e (by omega) az) ?_;refine br ?_ ?_<;>intro g2
    ·have g2:nH (fun a b=>f b a) l.length k e=none:=by
      rw [<- gT];simpa [pickB] using g2
     have hF:=Ip (by unfold rJ;rw [g2];simp);refine ⟨jK x,⟨by omega,bn hx⟩,?_⟩;refine ⟨_,?_,rfl⟩;rw [hF];exact ax
    ·have g2:¬ nH (fun a b=>f b a) l.length k e=none:=fun hn=>by
      have h3:=gT.2 hn;simp [pickB] at g2;have h3:=of_decide_eq_true h3;omega
     refine ⟨ZJ l l.length f e (k + 1),(wkM (wB1 (nxt il (by omega)))),e - (k + 1),by omega,k + 1,rfl,by omega,fun j hj=>?_,rfl⟩;rcases rP hj with hj | rfl
     ·exact uu j hj
     ·unfold rJ;rw [Option.isNone_eq_false_iff.2 (Option.isSome_iff_ne_none.2 g1),Option.isNone_eq_false_iff.2 (Option.isSome_iff_ne_none.2 g2)];rfl
   ·have g1:nH f l.length k e=none:=by
     rw [<- gT];simpa using g1
    have hF:=Ip (by unfold rJ;rw [g1];rfl);refine ⟨jK x,⟨by omega,bn hx⟩,?_⟩;refine ⟨_,?_,rfl⟩;rw [hF];exact ax
  ·have hge:k=e:=by have:=n7;simp at this;omega
   subst hge;refine ⟨ZI l l.length f (k + 1),(wkM (wB1 (nxt az (by omega)))),l.length - (k + 1),by omega,k + 1,rfl,by omega,fun j hj=>?_,rfl⟩;rcases rP hj with hj | rfl
   ·exact hno j hj
   ·grind
 ·have hge:e=l.length:=sW ju hL;subst hge;rw [eI hno] at hF;simp only at hF;refine ⟨_,?_,rfl⟩;rw [hF];exact ax
abbrev ovSt (n:Nat) (f:Nat->Nat->Bool) (l:List Nat) (c e:Nat):St:=
 ⟨[bJ 0 1 (dM (eS n f)),bJ 1 1 (dInts l),aC 2 c,aC 7 e],[],[]⟩
theorem DH (n:Nat) (f:Nat->Nat->Bool) (hn:n<=64) (l:List Nat) (hl:∀ i∈l,i < n) (NC:l.length<=1099511627776) (c:Nat) (hc:c < n) :
  aR prog 273 [.sl 1 (dM (eS n f)) none,.sl 1 (dInts l) none,.v (.int .i64 c)] (.v (.bool (jC f l c))):=by
 have ju:=kT n f;have OY:=bQ l;refine eG 25 [.tmp 6] func273 rfl ntmps273 rfl fun _ _ _ _=>?_;refine lI (fun j st=>∃ e:Nat,st=ovSt n f l c e/\e<=l.length/\jC f l c=jC f (l.drop e) c/\j=l.length - e) ⟨0,rfl,by omega,rfl,rfl⟩ (wkM wB) ?_;rintro j st ⟨e,rfl,he,aQ,rfl⟩;rw [aQ];refine br ?_ ?_<;>intro hL
 ·have az:e < l.length:=by have:=hL;simp [OY] at this;exact this
  obtain ⟨i,hi⟩:=gX az;have B8:=hl i (mG hi);have hst:jC f (l.drop e) c=(f i c && jC f (l.drop (e + 1)) c):=by unfold jC;rw [drop_cons hi,List.all_cons]
  refine iX (dr hi) ?_;refine iX (fM B8) ?_;refine iX (eE hc) ?_;refine br ?_ ?_<;>intro g
  ·have g:f i c=false:=sU g;rw [hst,g,Bool.false_and];exact (rfl:_=_)
  ·have g:f i c=true:=sU g;rw [g,Bool.true_and] at hst;exact rE ⟨_,by omega,e + 1,rfl,by omega,hst,rfl⟩ (wkM (wB1 (nxt az (by omega))))
 ·have hge:e=l.length:=sW OY hL;rw [hge,List.drop_length];exact (rfl:_=_)
def AL (f:Nat->Nat->Bool) (l:List Nat) (c k:Nat):Bool:=jC f l c && (List.range k).all fun d=>!jC f l d || f c d
theorem PQ (f:Nat->Nat->Bool) (l:List Nat) (c:Nat):AL f l c 0=jC f l c:=by simp [AL]
theorem PR (f:Nat->Nat->Bool) (l:List Nat) (c k:Nat):AL f l c (k + 1)=(AL f l c k && (!jC f l k || f c k)):=by grind [AL]
abbrev agH (n:Nat) (f:Nat->Nat->Bool) (l:List Nat) (e:Nat):St:=
 ⟨[bJ 0 1 (dM (eS n f)),bJ 1 1 (dInts l),aC 5 e],[],[]⟩
abbrev agI (n:Nat) (f:Nat->Nat->Bool) (l:List Nat) (e:Nat) (x:Bool) (k:Nat):St:=
 ⟨[bJ 0 1 (dM (eS n f)),bJ 1 1 (dInts l),aC 5 e,zt 6 x,aC 7 k],[],[]⟩
theorem Ld (n:Nat) (f:Nat->Nat->Bool) (hn:n<=64) (l:List Nat) (hl:∀ i∈l,i < n) (NC:l.length<=1099511627776) :
  aR prog 202 [.sl 1 (dM (eS n f)) none,.sl 1 (dInts l) none] (.v (.int .i64 (oz (gQ f n l)))):=by
 have ju:=kT n f;refine eG 40 [.tmp 4] func202 rfl ntmps202 rfl fun _ _ _ _=>?_;refine lI (fun j st=>∃ e:Nat,st=agH n f l e/\e<=n/\(∀ c,c < e->H0 f n l c=false)/\j=n - e) ⟨0,rfl,by omega,fun _ h=>by omega,rfl⟩ (wkM wB) ?_;rintro j st ⟨e,rfl,he,hno,rfl⟩;refine br ?_ ?_<;>intro hL
 ·have az:e < n:=sV ju hL;refine cP YX (DH n f hn l hl NC e az) ?_;refine lJ (fun k=>agI n f l e (AL f l e k) k) n (wkM (wB1 ((PQ f l e).symm))) ?_;intro k hk;refine br ?_ ?_<;>intro n7
  ·have il:k < n:=sV ju n7;have ZH:=PR f l e k;refine cP YX (DH n f hn l hl NC k il) ?_;refine br ?_ ?_<;>intro g1
   ·refine iX (fM az) ?_;refine iX (eE il) ?_;refine br ?_ ?_<;>intro g2
    ·have hx:false=AL f l e (k + 1):=by simp [pickB] at g1 g2;rw [ZH];simp [g1,g2]
     exact rE ⟨_,by omega,k + 1,rfl,by omega,rfl⟩ (wkM (wB2 (nxt il (by omega)) hx))
    ·have hx:AL f l e k=AL f l e (k + 1):=by simp [pickB] at g1 g2;rw [ZH];simp [g1,g2]
     exact rE ⟨_,by omega,k + 1,rfl,by omega,rfl⟩ (wkM (wB2 (nxt il (by omega)) hx))
   ·have hx:AL f l e k=AL f l e (k + 1):=by simp [pickB] at g1;rw [ZH];simp [g1]
    exact rE ⟨_,by omega,k + 1,rfl,by omega,rfl⟩ (wkM (wB2 (nxt il (by omega)) hx))
  ·have hge:k=n:=sW ju n7;subst hge;refine br ?_ ?_<;>intro g
   ·have g:H0 f k l e=true:=g;rw [gQ,dR az g hno];exact (rfl:_=_)
   ·have g:H0 f k l e=false:=g;refine ⟨agH k f l (e + 1),(wkM (wB1 (nxt az (by omega)))),k - (e + 1),by omega,e + 1,rfl,by omega,fun j hj=>?_,rfl⟩;rcases rP hj with hj | rfl
    ·exact hno j hj
    ·exact g
 ·have hge:e=n:=sW ju hL;subst hge;rw [gQ,eI hno];exact (rfl:_=_)
abbrev abJ (lv:List Wd) (f:Nat->Nat->Bool) (l:List Wd) (q e:Nat):St:=
 ⟨[bJ 0 2 (bA lv),bJ 1 1 (dM (eS lv.length f)),bJ 2 2 (bA l),aJ 7 0,(8,⟨[],.sl 1 (dInts (oE (aF lv) (l.take e))) (some 0)⟩),aC 9 e],[[.v (.int .i64 0),.v (.int .i64 0)]],[⟨q,3,1,none⟩]⟩
theorem Xk {L:List ByteArray} {l:List Wd} {i:Nat} (h:i∈oE L l) (hL:0 < L.length):i < L.length:=by
 unfold oE at h;obtain ⟨w,_,rfl⟩:=List.mem_map.1 h
 cases hx:dC L w.s with
 | none=>simpa using hL
 | some p=>exact (dX hx).1
theorem Le {L:List ByteArray} {l:List Wd} {e i:Nat} {w:Wd} (h:l[e]? = some w) (hi:dC L w.s=some i):dInts (oE L (l.take e)) ++ [[DV.v (.int .i64 (oz (some i)))]]=dInts (oE L (l.take (e + 1))):=by
 rw [we h hi];simp [dInts,oz]
theorem PS (lv:List Wd) (f:Nat->Nat->Bool) (h0:0 < lv.length) (hn:lv.length<=32) (hs:wdsWt lv<=1099511627776) (l:List Wd) (hl:wdsWt l<=1099511627776) :
  aR prog 115 [.sl 2 (bA lv) none,.sl 1 (dM (eS lv.length f)) none,.sl 2 (bA l) none] (Pz f (aF lv) l):=by
 have qJ:=bW l;have ir:=ee lv;unfold Pz FB;refine eG 40 [.tmp 6,.cell 7 26] func115 rfl ntmps115 rfl fun _ _ _ _=>?_;refine lI (fun j st=>∃ e:Nat,st=abJ lv f l e e/\e<=l.length/\labW (aF lv) l=labW (aF lv) (l.drop e)/\j=l.length - e) ⟨0,rfl,by omega,rfl,rfl⟩ (gw ⟨0,3,1,none⟩ rfl ⟨_,rfl⟩ rfl wA rfl rfl lW) ?_;rintro j st ⟨e,rfl,he,aQ,rfl⟩;rw [aQ];refine br ?_ ?_<;>intro hL
 ·have az:e < l.length:=by simpa [aD] using hL
  obtain ⟨w,hw⟩:=gX az;have hst:=wb (L:=aF lv) hw;refine ⟨jK w,⟨by omega,bn hw⟩,?_⟩;refine cP zG (gF lv w.s hs) ?_;refine br ?_ ?_<;>intro ha
  ·have ha:=gT.1 ha;rw [hst,zIfP ha];refine dS ?_;refine ⟨jK w,⟨by omega,bn hw⟩,?_⟩;exact ⟨_,ax,rfl⟩
  ·cases hi:dC (aF lv) w.s with
   | none=>have:=gT.2 hi;rw [ha] at this;cases this
   | some i=>
   rw [af (by rw [hi];simp)] at hst;refine ⟨by simp [bQ,oE];omega,⟨by simp [bQ,oE,maxLen];omega,by simp [bQ,oE];omega⟩,?_⟩;exact rE ⟨_,by omega,e + 1,rfl,by omega,hst,rfl⟩ (wkM (wB2 (nxt az (by omega)) (Le hw hi)))
 ·have hge:e=l.length:=by have:=hL;simp [aD] at this;omega
  rw [hge,List.drop_length,List.take_length];refine cP aeJ (Ld lv.length f (by omega) (oE (aF lv) l) (fun i hi=>by have:=Xk hi (by omega);omega) (by simp [oE];omega)) ?_;rw [<- ir];exact ⟨_,ax,rfl⟩
theorem abK {S:Sch} {e:Nat} {x:Wd × Ty} (h:S.types[e]? = some x):(tL S)[e]? = some x.1.s:=by simp [tL,aF,yk,h]
abbrev ZK (S:Sch) (s:ByteArray) (e:Nat):St:=
 ⟨[(1,⟨[],.v (.string s)⟩),aJ 2 0,aC 5 e],[dt S],[]⟩
theorem mr (S:Sch) (s:ByteArray) (hl:S.types.length<=1099511627776) :
  aR prog 116 [.agg (dt S),.v (.string s)] (.v (.int .i64 (oz (dC (tL S) s)))):=by
 have hN:=bS S.types;have gf:=mI S;have kB:=@abK S;obtain ⟨ae,order,types,⟨rh,rp⟩⟩:=S;simp only at hl hN gf kB;refine eG 23 [.tmp 4] func116 rfl ntmps116 rfl fun _ _ _ _=>?_;refine lI (fun j st=>∃ e:Nat,st=ZK ⟨ae,order,types,.mk rh rp⟩ s e/\e<=types.length/\(∀ j,j < e->(tL ⟨ae,order,types,.mk rh rp⟩)[j]? ≠ some s)/\j=types.length - e) ⟨0,rfl,by omega,fun _ h=>by omega,rfl⟩ (wkM wB) ?_;rintro j st ⟨e,rfl,he,hno,rfl⟩;refine br ?_ ?_<;>intro hL
 ·have az:e < types.length:=by have:=hL;simp [hN] at this;exact this
  obtain ⟨x,hx⟩:=gX az;have hg:=kB hx;obtain ⟨xw,⟨xh,xp⟩⟩:=x;refine iX (dNms_get hx) ?_;refine br ?_ ?_<;>intro hq
  ·have hq:xw.s=s:=sU hq;rw [Fx (p:=e) (by rw [hg,hq]) (fun j hj=>Nat.le_of_not_lt fun hl=>hno j hl hj)];exact (rfl:_=_)
  ·have hq:¬ xw.s=s:=sU hq;refine ⟨ZK ⟨ae,order,types,.mk rh rp⟩ s (e + 1),(wkM (wB1 (nxt az (by omega)))),types.length - (e + 1),by omega,e + 1,rfl,by omega,fun j hj=>?_,rfl⟩;rcases rP hj with hj | rfl
   ·exact hno j hj
   ·rw [hg];simpa using hq
 ·have hge:e=types.length:=sW hN hL;rw [NI (fun j hj=>hno j (by omega))];exact (rfl:_=_)
abbrev agJ (S:Sch) (l:List Wd) (e:Nat):St:=
 ⟨[bJ 1 2 (bA l),aJ 2 0,aJ 4 1,aC 5 e],[dt S,[.v (.int .i64 0),.v (.int .i64 0)]],[]⟩
theorem Iq (S:Sch) (hs:wdsWt S.ae<=1099511627776) (l:List Wd) (hl:wdsWt l<=1099511627776) :
  aR prog 198 [.agg (dt S),.sl 2 (bA l) none] (labW (aF S.ae) l).d:=by
 have qJ:=bW l;obtain ⟨ae,order,types,⟨rh,rp⟩⟩:=S;simp only at hs;refine eG 28 [.cell 4 26] func198 rfl ntmps198 rfl fun _ _ _ _=>?_;refine lI (fun j st=>∃ e:Nat,st=agJ ⟨ae,order,types,.mk rh rp⟩ l e/\e<=l.length/\labW (aF ae) l=labW (aF ae) (l.drop e)/\j=l.length - e) ⟨0,rfl,by omega,rfl,rfl⟩ (wkM wB) ?_;rintro j st ⟨e,rfl,he,aQ,rfl⟩;rw [aQ];refine br ?_ ?_<;>intro hL
 ·have az:e < l.length:=by simpa [aD] using hL
  obtain ⟨w,hw⟩:=gX az;have hst:=wb (L:=aF ae) hw;refine dI ?_;refine ⟨jK w,⟨by omega,bn hw⟩,?_⟩;refine cD zG (gF ae w.s hs) ?_;refine br ?_ ?_<;>intro ha
  ·have ha:=gT.1 ha;rw [hst,zIfP ha];refine ⟨jK w,⟨by omega,bn hw⟩,?_⟩;exact ⟨_,ax,rfl⟩
  ·rw [af (fun hn=>by have:=gT.2 hn;rw [ha] at this;cases this)] at hst;exact rE ⟨_,by omega,e + 1,rfl,by omega,hst,rfl⟩ (wkM (wB1 (nxt az (by omega))))
 ·have hge:e=l.length:=by have:=hL;simp [aD] at this;omega
  rw [hge,List.drop_length];exact ⟨_,ax,rfl⟩
def jv (l:List Ty):List (List DV):=l.map cL
theorem eK (l:List Ty):(jv l).length=l.length:=by simp [jv]
theorem lL {l:List Ty} {j:Nat} {t:Ty} (h:l[j]? = some t):(jv l)[j]? = some (cL t):=by simp [jv,h]
def iL (S:Sch):List Ty:=S.types.map fun x=>x.2
def jg (S:Sch):List Ty:=iL S ++ [S.root]
abbrev agK (S:Sch) (q e:Nat):St:=
 ⟨[aJ 1 0,(3,⟨[],.sl 9 (jv ((iL S).take e)) (some 0)⟩),aC 4 e],[dt S],[⟨q,36,9,none⟩]⟩
theorem Ir (S:Sch) (hl:S.types.length<=1099511627776) :
  aR prog 50 [.agg (dt S)] (.sl 9 (jv (jg S)) none):=by
 have hN:=bS S.types;obtain ⟨ae,order,types,⟨rh,rp⟩⟩:=S;simp only at hl hN;refine eG 26 [.tmp 2] func50 rfl ntmps50 rfl fun _ _ _ _=>?_;refine lJ (fun e=>agK ⟨ae,order,types,.mk rh rp⟩ e e) types.length (di 1 ⟨0,36,9,none⟩ rfl rfl rfl tJ rfl rfl lW) ?_;intro e he;have gf:(jv ((iL ⟨ae,order,types,.mk rh rp⟩).take e)).length=e:=by simp [jv,iL];omega
 refine br ?_ ?_<;>intro hL
 ·have az:e < types.length:=by have:=hL;simp [hN] at this;exact this
  obtain ⟨x,hx⟩:=gX az
  have pz:jv ((iL ⟨ae,order,types,.mk rh rp⟩).take e) ++ [cL x.2]=jv ((iL ⟨ae,order,types,.mk rh rp⟩).take (e + 1)):=by
   rw [List.take_add_one];simp [iL,hx,jv]
  obtain ⟨xw,⟨xh,xp⟩⟩:=x;refine iX (dNms_get hx) ?_;refine ⟨gf,⟨by rw [gf];simp [maxLen];omega,by rw [gf];simp;omega⟩,?_⟩;exact rE ⟨_,by omega,e + 1,rfl,by omega,rfl⟩ (ej 1 (J9 (nxt az (by omega)) pz) (wB2 (nxt az (by omega)) pz))
 ·have hge:e=types.length:=sW hN hL;have Yq:jv ((iL ⟨ae,order,types,.mk rh rp⟩).take e) ++ [cL (.mk rh rp)]=jv (jg ⟨ae,order,types,.mk rh rp⟩):=by grind [iL,jg,jv]
  refine ⟨gf,⟨by rw [gf];simp [maxLen];omega,by rw [gf];simp;omega⟩,?_⟩;rw [<- Yq];exact ⟨_,ax,rfl⟩
mutual
def flatT:Ty->List Ty
 | .mk h ps=>if h.ay=9 then [] else .mk h ps :: flatP ps
def flatP:Pts->List Ty
 | .nil=>[]
 | .cons p t r=>(if p.bare then [] else flatT t) ++ flatP r
end
mutual
theorem kU:∀ t:Ty,(flatT t).length=t.nn
 | .mk h ps=>by
  have:=wy ps
  grind [flatT,Ty.nn]
theorem wy:∀ ps:Pts,(flatP ps).length=ps.nn
 | .nil=>rfl
 | .cons p t r=>by
  have:=kU t;have:=wy r
  grind [flatP,Pts.nn]
end
theorem Xl {P:Program} {f:FuncId} {args:List DV} {e:Nat} {es:List (List DV)} (h:Ev P f args [] [] (fun r _ _=>r = .sl e es none∨(es=[]/\r = .v (.slice none 0 0)))):aR P f args (.sl e es none):=by
 intro E w vs hE ht hv;refine (h E w vs hE ht hv).mono ?_;rintro e' w' ⟨v,rfl,hM,hs,d,os,E',h1,h2,h3,h4,h5,h6⟩;rcases h6 with rfl | ⟨rfl,rfl⟩
 ·exact ⟨v,rfl,hM,hs,_,os,E',h1,h2,h3,h4,h5,rfl⟩
 ·refine ⟨v,rfl,hM,hs,.sl e [] none,os,E',h1,h2,h3,h4,?_,rfl⟩;unfold Rv at h5 ⊢;exact ⟨_,0,0,h5.1,⟨rfl,zLeR _⟩,fun hn=>(hn rfl).elim,fun k hk=>by cases hk⟩
abbrev abL (t:Ty) (L:List Ty) (q e:Nat):St:=
 ⟨[aJ 1 0,(3,⟨[],.sl 9 (jv L) (some 0)⟩),aC 4 e],[cL t],[⟨q,36,9,none⟩]⟩
theorem qV:∀ (k:Nat) (t:Ty),t.wt<=k->t.wt<=1099511627776 ->
  aR prog 51 [.agg (cL t)] (.sl 9 (jv (flatT t)) none)
 | 0,t,hn,_=>by have:=t.kj;omega
 | k + 1,.mk h ps,hn,c7=>by
  simp only [Ty.wt,Hd.wt] at hn c7;have jZ:=ps.gP;have hc:=ps.fy;have tw:=ps.iz;have GA:=wy ps;refine Xl ?_;refine yz (s:=false) (bt:=[]) (mu:=[9]) (hbt:=fun p hp=>by cases hp) (fr:=false) (P:=prog) tt xq 5000 34 [.tmp 2] func51 rfl ntmps51 rfl (nL rfl) (fun _ _ _ _=>?_);refine br ?_ ?_<;>intro h9
  ·have h9:h.ay=9:=sU h9;have:flatT (.mk h ps)=[]:=by simp [flatT,h9]
   exact .inr ⟨by rw [this];rfl,rfl⟩
  have h9:¬ h.ay=9:=sU h9;have hft:flatT (.mk h ps) = .mk h ps :: flatP ps:=by simp [flatT,h9]
  refine TF rfl rfl rfl rfl rfl rfl rfl rfl ?_
  refine aY (fun j st=>∃ (e q:Nat) (L:List Ty),st=abL (.mk h ps) L q e/\q=L.length/\e<=ps.len/\flatT (.mk h ps)=L ++ flatP (ps.drop e)/\j=ps.len - e) ps.len
   (abL (.mk h ps) [.mk h ps] 1 0) (ej 1 tJ lW) ⟨0,1,_,rfl,rfl,by omega,hft,by omega⟩ ?_
  rintro j st ⟨e,q,L,rfl,hq,he,bF,rfl⟩
  have VG:L.length<=1 + ps.nn:=by
   have:=congrArg List.length bF;rw [hft] at this;simp at this;omega
  refine br ?_ ?_<;>intro hL
  ·have az:e < ps.len:=by simpa [aP] using hL
   obtain ⟨p,t,hx⟩:=Pts.fx az;have BQ:=Pts.iu (mG hx);rw [Pts.drop_cons hx] at bF;simp only [flatP] at bF;obtain ⟨u,us⟩:=t;refine iX (ch hx) ?_;refine br ?_ ?_<;>intro hB
   ·have hB:p.bare=false:=sU hB;have bF:flatT (.mk h ps)=(L ++ flatT (.mk u us)) ++ flatP (ps.drop (e + 1)):=by rw [bF,hB,List.append_assoc];all_goals rfl
    have NC:L.length + (flatT (.mk u us)).length<=1 + ps.nn:=by
     have:=congrArg List.length bF;rw [hft] at this;simp at this;omega
    have pz:jv L ++ jv (flatT (.mk u us))=jv (L ++ flatT (.mk u us)):=by simp [jv]
    refine iX (ch hx) ?_;refine cP Wq (qV k (.mk u us) (by omega) (by omega)) ?_;refine ⟨by rw [eK,hq],⟨by simp only [eK,maxLen];omega,by simp only [eK];omega⟩,?_⟩;exact ⟨abL (.mk h ps) (L ++ flatT (.mk u us)) (q + (jv (flatT (.mk u us))).length) (e + 1),(ej 1 (J9 (nxt az (by omega)) pz) (wB2 (nxt az (by omega)) pz)),ps.len - (e + 1),by omega,e + 1,_,_,rfl,by rw [eK,List.length_append,hq],by omega,bF,rfl⟩
   ·have hB:p.bare=true:=sU hB;rw [hB] at bF;exact rE ⟨_,by omega,e + 1,q,L,rfl,hq,by omega,bF,rfl⟩ (ej 1 (ng (nxt az (by omega))) (wB1 (nxt az (by omega))))
  ·have hge:e=ps.len:=by simp [aP] at hL;omega
   rw [hge,Pts.dK] at bF;simp only [flatP,List.append_nil] at bF;rw [bF];exact ⟨_,ax,.inl rfl⟩
theorem AM (S:Sch) (hl:S.types.length<=1099511627776) (hr:∀ x∈S.types,ym S x.2=true):∀ (k i:Nat),i < S.types.length->k<=99 ->
  aR prog 108 [.agg (dt S),.v (.int .i64 i),.v (.int .i64 k)] (.v (.int .i64 (oz (endI S (k + 1) i))))
 | k,i,hi,hk=>by
  have hN:=bS S.types;have Fy:=fun s=>mr S s hl;have ih:∀ k' j,k=k' + 1->j < S.types.length->aR prog 108 [.agg (dt S),.v (.int .i64 j),.v (.int .i64 k')] (.v (.int .i64 (oz (endI S (k' + 1) j)))):=fun k' j he hj=>AM S hl hr k' j hj (by omega);obtain ⟨x,hx⟩:∃ x,S.types[i]? = some x:=⟨_,gE hi⟩;have hrx:=hr x (mG hx);have gf:=mI S;obtain ⟨xw,⟨xh,xp⟩⟩:=x;have hE:endI S (k + 1) i=if xh.ay=9 then endI S k ((dC (tL S) xh.name.s).getD 0) else some i:=by rw [endI,hx];all_goals rfl
  obtain ⟨ae,order,types,⟨rh,rp⟩⟩:=S;simp only at hl hN hi hx hrx gf;refine eG 32 [.tmp 6] func108 rfl ntmps108 rfl fun _ _ _ _=>?_;refine iX (dNms_get hx) ?_;refine br ?_ ?_<;>intro h9
  ·have h9:¬ xh.ay=9:=sU h9;rw [af h9] at hE;rw [hE];exact (rfl:_=_)
  have h9:xh.ay=9:=sU h9;rw [zIfP h9] at hE;rw [hE];refine br ?_ ?_<;>intro h1
  ·have h1:k=0:=by have:=h1;simp at this;omega
   subst h1;exact (rfl:_=_)
  have h1:1<=k:=by have:=h1;simp at this;omega
  obtain ⟨k',rfl⟩:∃ k',k=k' + 1:=⟨k - 1,by omega⟩;have Vy:=of_decide_eq_true hrx h9;obtain ⟨j,hj⟩:∃ j,dC (tL ⟨ae,order,types,.mk rh rp⟩) xh.name.s=some j:=Option.ne_none_iff_exists'.1 Vy;have zc:=(dX hj).1;rw [gf] at zc;have hf:=Fy xh.name.s;rw [hj] at hf ⊢;have iH:IntKind.i64.wrap (((k' + 1:Nat):Int) - 1)=(k':Int):=by rw [wrap64 (by omega) (by omega)];omega
  refine dI ?_;refine iX (dNms_get hx) ?_;refine cD MQ hf ?_;refine cD RO (ih k' j rfl zc) ?_ (o9 iH);exact (rfl:_=_)
theorem wz {S:Sch}:∀ {k i j:Nat},endI S k i=some j->endI S (k + 1) i=some j
 | 0,i,j,h=>by cases h
 | k + 1,i,j,h=>by
  rw [endI] at h ⊢
  cases hx:S.types[i]? with
  | none=>rw [hx] at h;cases h
  | some x=>
   rw [hx] at h;simp only at h ⊢;split at h
   ·rename_i h9;rw [zIfP h9];exact wz h
   ·rename_i h9;rw [af h9];exact h
def AN (S:Sch) (k:Nat):List Bool:=(List.range S.types.length).map fun i=>(endI S k i).isSome
theorem uw (S:Sch) (k:Nat):(AN S k).length=S.types.length:=by simp [AN]
theorem AO {S:Sch} {k i:Nat} (hi:i < S.types.length):(AN S k).getD i false=(endI S k i).isSome:=by grind [AN]
theorem Xm (S:Sch) (k:Nat):VD (AN S k) (AN S (k + 1)):=by
 intro i h;by_cases hi:i < S.types.length
 ·rw [AO hi] at h ⊢;obtain ⟨j,hj⟩:=Option.isSome_iff_exists.1 h;rw [wz hj];rfl
 ·grind [uw]
theorem TV {S:Sch} {k:Nat} (h:AN S k=AN S (k + 1)):∀ i,endI S (k + 2) i=endI S (k + 1) i:=by
 intro i
 have key:∀ {j:Nat},j < S.types.length->(endI S k j).isSome=(endI S (k + 1) j).isSome:=fun {j} hj=>by
  rw [<- AO hj,<- AO hj,h]
 have same:∀ j,endI S (k + 1) j=endI S k j:=fun j=>by
  cases h1:endI S k j with
  | some m=>exact wz h1
  | none=>
   cases h2:endI S (k + 1) j with
   | none=>rfl
   | some m=>grind [endI]
 grind [endI]
theorem DI (S:Sch):∀ k,(∀ i,endI S (k + 1) i=endI S k i)∨k<=yj (AN S k)
 | 0=>.inr (Nat.zero_le _)
 | k + 1=>by
  rcases DI S k with h | h
  ·grind [endI]
  ·rcases (leB_eq (by rw [uw,uw]) (Xm S k)).1 with h2 | h2
   ·exact .inl (TV h2)
   ·exact .inr (by omega)
theorem Iu {S:Sch}:∀ {k:Nat},S.types.length + 1<=k->∀ i,endI S k i=endI S (S.types.length + 1) i:=by
 have hst:∀ i,endI S (S.types.length + 2) i=endI S (S.types.length + 1) i:=fun i=>by
  rcases DI S (S.types.length + 1) with h | h
  ·exact h i
  ·grind [cntB_le,AN,uw]
 have key:∀ d i,endI S (S.types.length + 1 + (d + 1)) i=endI S (S.types.length + 1 + d) i:=by
  intro d
  induction d with
  | zero=>exact hst
  | succ d ih=>grind [endI]
 intro k hk i;obtain ⟨d,rfl⟩:∃ d,k=S.types.length + 1 + d:=⟨k - (S.types.length + 1),by omega⟩;clear hk
 induction d with
 | zero=>rfl
 | succ d ih=>rw [key,ih]
theorem AP (S:Sch) (hl:S.types.length<=64) (hr:∀ x∈S.types,ym S x.2=true) (i:Nat) (hi:i < S.types.length) :
  aR prog 108 [.agg (dt S),.v (.int .i64 i),.v (.int .i64 (99:Nat))] (.v (.int .i64 (oz (endI S (S.types.length + 1) i)))):=by
 have:=AM S (by omega) hr 99 i hi (zLeR _)
 rwa [Iu (by omega)] at this
abbrev agL (S:Sch) (k n e:Nat):St:=
 ⟨[aJ 2 0,aC 5 k,aC 6 n,aC 7 e],[dt S],[]⟩
theorem AQ (S:Sch) (hl:S.types.length<=64) (hs:nmsWt S.types<=1099511627776) (hr:∀ x∈S.types,ym S x.2=true) (s:ByteArray) (i k:Nat) (hi:dC (tL S) s=some i) (hk:endI S (S.types.length + 1) i=some k) :
  aR prog 53 [.agg (dt S),.v (.string s)] (.v (.int .i64 (firstA S k))):=by
 have hN:=bS S.types;have OY:=(dX hi).1;rw [mI] at OY;have BO:=(yF hk).1;have hf:=mr S s (by omega);have he:=AP S hl hr i OY;rw [hi] at hf;rw [hk] at he;have hfa:=@p8 S;have Fz:=Du S;obtain ⟨ae,order,types,⟨rh,rp⟩⟩:=S;simp only at hl hs hN OY BO hfa Fz;refine eG 29 [.tmp 4] func53 rfl ntmps53 rfl fun _ _ _ _=>?_;refine dI ?_;refine cD MQ hf ?_;refine cD RO he ?_;refine lJ (fun e=>agL ⟨ae,order,types,.mk rh rp⟩ k (firstA ⟨ae,order,types,.mk rh rp⟩ e) e) k (wkM wB) ?_;intro e hek;refine br ?_ ?_<;>intro hL
 ·have az:e < k:=sU hL;obtain ⟨x,hx⟩:∃ x,types[e]? = some x:=⟨_,gE (by omega)⟩;have VB:=jO (mG hx);have h1:=hfa hx;have h2:=Fz e;have h3:=Fz (e + 1);have h4:=kU x.2;obtain ⟨xw,⟨xh,xp⟩⟩:=x;simp only at VB h1 h4;refine iX (dNms_get hx) ?_;refine cP Wq (qV _ (.mk xh xp) (zLeR _) (by omega)) ?_;have CW:IntKind.i64.wrap ((firstA ⟨ae,order,types,.mk rh rp⟩ e:Int) + (jv (flatT (.mk xh xp))).length)=(firstA ⟨ae,order,types,.mk rh rp⟩ (e + 1):Int):=by grind [eK,wrap64]
  exact rE ⟨_,by omega,e + 1,rfl,by omega,rfl⟩ (wkM (wB2 CW (nxt az (by omega))))
 ·have hge:e=k:=by have:=hL;simp at this;omega
  subst hge;exact (rfl:_=_)
theorem NL {S:Sch} {e:Nat} {x:Wd × Ty} (h:S.types[e]? = some x):(yk S)[e]? = some x.1:=by simp [yk,h]
abbrev agM (S:Sch) (e:Nat):St:=
 ⟨[aJ 1 0,aJ 2 1,aC 3 e],[dt S,[.v (.int .i64 0),.v (.int .i64 0)]],[]⟩
theorem FL (S:Sch) (hs:nmsWt S.types<=1099511627776) :
  aR prog 105 [.agg (dt S)] (fF S).d:=by
 have hN:=bS S.types;have ir:=nk S.types;have gf:=NA S;have hF:=fF.eq_1 S;have kB:=@NL S;have Fy:=fun s=>mr S s (by omega);have hTL:tL S=aF (yk S):=rfl;obtain ⟨ae,order,types,⟨rh,rp⟩⟩:=S;simp only at hs hN ir gf kB hF;generalize hQ:yk ⟨ae,order,types,.mk rh rp⟩=Q at gf hF kB hTL;refine eG 47 [.cell 2 26] func105 rfl ntmps105 rfl fun _ _ _ _=>?_;generalize fF ⟨ae,order,types,.mk rh rp⟩=F at hF ⊢;refine br ?_ ?_<;>intro h
 ·have h:64 < types.length:=by simp [hN] at h;omega
  obtain ⟨x,hx⟩:∃ x,types[64]? = some x:=⟨_,gE h⟩;have hxn:=kB hx;rw [zIfP h,mq hxn] at hF;obtain ⟨xw,⟨xh,xp⟩⟩:=x;refine iX (dNms_get hx) ?_;refine ⟨_,?_,rfl⟩;rw [hF];exact ax
 have h:¬ 64 < types.length:=by simp [hN] at h;omega
 rw [af h] at hF;refine lI (fun j st=>∃ e:Nat,st=agM ⟨ae,order,types,.mk rh rp⟩ e/\e<=types.length/\enumL Q 0 Q=enumL Q e (Q.drop e)/\j=types.length - e) ⟨0,rfl,by omega,rfl,rfl⟩ (wkM wB) ?_;rintro j st ⟨e,rfl,he,aQ,rfl⟩;rw [aQ] at hF;refine br ?_ ?_<;>intro hL
 ·have az:e < types.length:=by have:=hL;simp [hN] at this;exact this
  obtain ⟨x,hx⟩:=gX az;have VB:=jO (mG hx);have hq:=kB hx;have hst:=sx hq;obtain ⟨p,hp,QO⟩:=TS hq;obtain ⟨xw,⟨xh,xp⟩⟩:=x;simp only [Wd.wt] at VB hq hst hp QO;have hf:=Fy xw.s;rw [hTL,hp] at hf;have hlab:=ow [xw] (by simp only [wdsWt,Wd.wt];omega);have JO:b9 [xw]=if bM xw.s then (0,0) else (9,xw.a):=by simp [b9,badWd]
  refine iX (dNms_get hx) ?_;refine cP RW hlab ?_;refine br ?_ ?_<;>intro hN
  ·have hN:(b9 [xw]).1≠0:=sU hN
   cases fh:bM xw.s with
   | true=>rw [JO,fh] at hN;exact absurd rfl hN
   | false=>
   rw [fh] at JO;have JO:b9 [xw]=(9,xw.a):=JO;have hf9:aK Q e xw=9:=by simp [aK,fh]
   rw [hst,hf9,zIfP (by decide)] at hF;refine ⟨_,?_,rfl⟩;rw [hF,JO];exact ax
  ·have hN:(b9 [xw]).1=0:=sU hN
   cases fh:bM xw.s with
   | false=>rw [JO,fh] at hN;exact absurd hN (by simp)
   | true=>
   refine cP MQ hf ?_;refine br ?_ ?_<;>intro h2
   ·have h2:p < e:=by have:=h2;simp [oz] at this;exact this
    have hf10:aK Q e xw=10:=by simp [aK,fh,QO.1 h2]
    rw [hst,hf10,zIfP (by decide)] at hF;refine ⟨_,?_,rfl⟩;rw [hF];exact ax
   ·have h2:¬ p < e:=by have:=h2;simp [oz] at this;omega
    have hd:c8 (Q.take e) xw.s=false:=by grind
    have hf0:aK Q e xw=0:=by simp [aK,fh,hd]
    rw [hf0,af (by simp)] at hst;exact rE ⟨_,by omega,e + 1,rfl,by omega,by rw [aQ,hst],rfl⟩ (wkM (wB1 (nxt az (by omega))))
 ·have hge:e=types.length:=sW hN hL;rw [hge,<- gf,List.drop_length] at hF;refine ⟨_,?_,rfl⟩;rw [hF];exact ax
abbrev NM (S:Sch) (t:Ty) (e:Nat):St:=
 ⟨[aJ 2 0,aJ 3 1,aJ 4 2,aC 5 e],[dt S,cL t,[.v (.int .i64 0),.v (.int .i64 0)]],[]⟩
theorem ux (S:Sch) (hl:S.types.length<=1099511627776) (hs:wdsWt S.ae<=1099511627776):∀ (k:Nat) (t:Ty),t.wt<=k->t.wt<=1099511627776 ->
  aR prog 107 [.agg (dt S),.agg (cL t)] (n9 S t).d
 | 0,t,hn,_=>by have:=t.kj;omega
 | k + 1,.mk h ps,hn,c7=>by
  have ih:=ux S hl hs k;simp only [Ty.wt,Hd.wt] at hn c7;have jZ:=ps.gP;have hf:=mr S h.name.s hl;have hwd:=fun l hl=>Iq S hs l hl;have hS:n9 S (.mk h ps)=if h.ay=9/\dC (tL S) h.name.s=none then (15,h.name.a) else knP ⟨aF S.ae,[],[],[],fun _ _=>false⟩ (tL S) ps:=by rw [n9,knT]
  have hS0:knP ⟨aF S.ae,[],[],[],fun _ _=>false⟩ (tL S) ps=knP ⟨aF S.ae,[],[],[],fun _ _=>false⟩ (tL S) (ps.drop 0):=by rw [Pts.drop]
  have hK:∀ e p u,ps.toList[e]? = some (p,u)->knP ⟨aF S.ae,[],[],[],fun _ _=>false⟩ (tL S) (ps.drop e)=if (labW (aF S.ae) p.label).1≠0 then labW (aF S.ae) p.label else if (labW (aF S.ae) p.cl).1≠0 then labW (aF S.ae) p.cl else if p.bare then knP ⟨aF S.ae,[],[],[],fun _ _=>false⟩ (tL S) (ps.drop (e + 1)) else if (n9 S u).1≠0 then n9 S u else knP ⟨aF S.ae,[],[],[],fun _ _=>false⟩ (tL S) (ps.drop (e + 1)):=fun e p u hx=>by
   rw [Pts.drop_cons hx,knP];all_goals rfl
  have hK0:knP ⟨aF S.ae,[],[],[],fun _ _=>false⟩ (tL S) .nil=(0,0):=by rw [knP]
  generalize knP ⟨aF S.ae,[],[],[],fun _ _=>false⟩ (tL S)=KP at hS hS0 hK hK0;obtain ⟨ae,order,types,⟨rh,rp⟩⟩:=S;refine eG 64 [.cell 4 26] func107 rfl ntmps107 rfl fun _ _ _ _=>?_;generalize n9 ⟨ae,order,types,.mk rh rp⟩ (.mk h ps)=F at hS ⊢;refine have body:=?_;br (fun h9=>Ru MQ hf ax rfl (br (fun hx=>?_) (fun hx=>aY (fun j st=>∃ e:Nat,st=NM ⟨ae,order,types,.mk rh rp⟩ (.mk h ps) e/\e<=ps.len/\F=KP (ps.drop e)/\j=ps.len - e) ps.len (NM ⟨ae,order,types,.mk rh rp⟩ (.mk h ps) 0) (wkM wB) ⟨0,rfl,by omega,?_,by omega⟩ body))) (fun h9=>aY (fun j st=>∃ e:Nat,st=NM ⟨ae,order,types,.mk rh rp⟩ (.mk h ps) e/\e<=ps.len/\F=KP (ps.drop e)/\j=ps.len - e) ps.len (NM ⟨ae,order,types,.mk rh rp⟩ (.mk h ps) 0) (wkM wB) ⟨0,rfl,by omega,?_,by omega⟩ body)
  rotate_left
  ·have h9:h.ay=9:=sU h9;have hx:dC (tL ⟨ae,order,types,.mk rh rp⟩) h.name.s=none:=gT.1 (by simpa [pickB] using hx);rw [zIfP ⟨h9,hx⟩] at hS;refine ⟨_,?_,rfl⟩;rw [hS];exact ax
  ·have hx:¬ dC (tL ⟨ae,order,types,.mk rh rp⟩) h.name.s=none:=fun hn=>by
    have h3:=gT.2 hn;simp [pickB] at hx;have h3:=of_decide_eq_true h3;omega
   rw [af (fun hc=>hx hc.2),hS0] at hS;exact hS
  ·grind
  rintro j st ⟨e,rfl,he,aQ,rfl⟩;refine br ?_ ?_<;>intro hL
  ·have az:e < ps.len:=by simpa [aP] using hL
   obtain ⟨p,t,hx⟩:=Pts.fx az;have BQ:=Pts.iu (mG hx);have hk:=hK e p t hx;have s7:wdsWt p.label + wdsWt p.cl<=p.wt:=by simp only [Ph.wt];omega
   obtain ⟨u,us⟩:=t;refine iX (ch hx) ?_;refine cP YJ (hwd p.label (by omega)) ?_;refine br ?_ ?_<;>intro b1
   ·have b1:(labW (aF ae) p.label).1=0:=sU b1;rw [af (by simp [b1])] at hk;refine cP YJ (hwd p.cl (by omega)) ?_;refine br ?_ ?_<;>intro b2
    ·have b2:(labW (aF ae) p.cl).1=0/\p.bare=false:=by
      rw [pickB_and] at b2;simpa using b2
     obtain ⟨b2,b3⟩:=b2;rw [af (by simp [b2]),af (by simp [b3])] at hk;refine cP RN (ih (.mk u us) (by omega) (by omega)) ?_;refine br ?_ ?_<;>intro b4
     ·have b4:(n9 ⟨ae,order,types,.mk rh rp⟩ (.mk u us)).1≠0:=sU b4;rw [zIfP b4] at hk
      (refine ⟨_,?_,rfl⟩;rw [aQ,hk];exact ax)
     ·have b4:(n9 ⟨ae,order,types,.mk rh rp⟩ (.mk u us)).1=0:=sU b4;rw [af (by simp [b4])] at hk;exact rE ⟨_,by omega,e + 1,rfl,by omega,by rw [aQ,hk],rfl⟩ (wkM (wB1 (nxt az (by omega))))
    ·refine br ?_ ?_<;>intro b4
     ·have b4:(labW (aF ae) p.cl).1≠0:=sU b4;rw [zIfP b4] at hk
      (refine ⟨_,?_,rfl⟩;rw [aQ,hk];exact ax)
     ·have b4:(labW (aF ae) p.cl).1=0:=sU b4
      have b3:p.bare=true:=by
       rw [pickB_and] at b2;simpa [b4] using b2
      rw [af (by simp [b4]),zIfP b3] at hk;exact rE ⟨_,by omega,e + 1,rfl,by omega,by rw [aQ,hk],rfl⟩ (wkM (wB1 (nxt az (by omega))))
   ·have b1:¬ (labW (aF ae) p.label).1=0:=sU b1;rw [zIfP b1] at hk;refine br ?_ ?_<;>intro b2
    ·rw [pickB_and] at b2;simp [b1] at b2
    ·refine br ?_ ?_<;>intro b4
     ·(refine ⟨_,?_,rfl⟩;rw [aQ,hk];exact ax)
     ·simp [b1] at b4
  ·have hge:e=ps.len:=by simp [aP] at hL;omega
   rw [hge,Pts.dK] at aQ;refine ⟨_,?_,rfl⟩;rw [aQ,hK0];exact ax
abbrev NN (h:Hd) (ps:Pts) (e:Nat) (depth m:Int):St:=
 ⟨[aC 2 depth,aJ 3 0,aJ 4 1,aJ 6 2,aC 7 e],[[.v (.int .i64 0),.v (.int .i64 0),.v (.int .i64 m)],cL (.mk h ps),[.v (.int .i64 0),.v (.int .i64 0),.v (.int .i64 0)]],[]⟩
theorem FM (k:Nat) (ih:Ff k) (h:Hd) (ps:Pts) (depth m:Int) (hk:ps.wt<=k) (c7:(Ty.mk h ps).wt<=1099511627776) (BP:0<=depth) (vb:depth<=25) (oZ:0<=m) (kO:m<=512) :
  aR prog 106 [wD (0,0) m,.agg (cL (.mk h ps)),.v (.int .i64 depth)] (wD (wrong (.mk h ps) depth m).1 (wrong (.mk h ps) depth m).2):=by
 have Ds:=c7;simp only [Ty.wt,Hd.wt] at Ds;have jZ:=ps.gP;have hnw:=bW h.ag;have vc:IntKind.i64.wrap (m + 1)=m + 1:=wrap64 (by omega) (by omega)
 have hW:∀ e a,aR prog 193 [.agg [.v (.int .i64 0),.v (.int .i64 0),.v (.int .i64 (IntKind.i64.wrap (m + 1)))],.v (.int .i64 e),.v (.int .i64 a)] (wD (e,a) (m + 1)):=by
  intro e a;rw [vc];exact fp (0,0) (m + 1) e a
 have hS:=wrong.eq_def (.mk h ps) depth m;simp only at hS;refine eG 201 [.cell 6 179] func106 rfl ntmps106 rfl fun _ _ _ _=>?_;refine br ?_ ?_<;>intro c
 ·have c:24 < depth:=of_decide_eq_true c;refine cP iK (hW 6 h.cT) ?_;rw [zIfP c] at hS;refine ⟨_,?_,rfl⟩;rw [hS];exact ax
 have c:¬ 24 < depth:=of_decide_eq_false c;rw [af c] at hS;refine br ?_ ?_<;>intro c
 ·have c:512 < IntKind.i64.wrap (m + 1):=of_decide_eq_true c;rw [vc] at c;refine cP iK (hW 8 h.cT) ?_;rw [zIfP c] at hS;refine ⟨_,?_,rfl⟩;rw [hS];exact ax
 have c:¬ 512 < IntKind.i64.wrap (m + 1):=of_decide_eq_false c;rw [vc] at c;rw [af c] at hS;refine br ?_ ?_<;>intro c
 ·have c:h.ay < 1∨9 < h.ay:=by simpa [ak] using c
  refine cP iK (hW 14 h.cT) ?_;rw [zIfP c] at hS;refine ⟨_,?_,rfl⟩;rw [hS];exact ax
 have c:¬ (h.ay < 1∨9 < h.ay):=by simp [ak] at c;omega
 rw [af c] at hS;refine cP aeH (Kp (.mk h ps) (by omega)) ?_;refine br ?_ ?_<;>intro c
 ·have c:zR (.mk h ps)=false:=by simpa [zR] using c
  refine cP iK (hW 19 h.cT) ?_;rw [zIfP c] at hS;refine ⟨_,?_,rfl⟩;rw [hS];exact ax
 have c:¬ zR (.mk h ps)=false:=by simpa [zR] using c
 rw [af c] at hS;refine br ?_ ?_<;>intro c
 ·have c:(h.ay=2/\h.hi < h.lo)∨(h.ay=3/\(h.most < 0∨4096 < h.most)):=by simp [ak,pickB_and] at c;omega
  refine cP iK (hW 20 h.cT) ?_;rw [zIfP c] at hS;refine ⟨_,?_,rfl⟩;rw [hS];exact ax
 have c:¬ ((h.ay=2/\h.hi < h.lo)∨(h.ay=3/\(h.most < 0∨4096 < h.most))):=by simp [ak,pickB_and] at c;omega
 rw [af c] at hS;refine br ?_ ?_<;>intro k9
 ·have k9:h.ay=9:=sU k9;refine cP MW (mg h.name.s (by simp only [Wd.wt] at Ds;omega)) ?_;refine br ?_ ?_<;>intro q
  ·have q:bM h.name.s=false:=by simpa [pickB_and,k9] using q
   refine cP iK (hW 9 h.name.a) ?_;rw [zIfP ⟨k9,q⟩] at hS;refine ⟨_,?_,rfl⟩;rw [hS];exact ax
  ·have q:bM h.name.s=true:=by simpa [pickB_and,k9] using q
   rw [af (by simp [q]),af (by omega),af (by omega),af (by omega)] at hS;refine br (fun x=>?_) (fun _=>?_)
   ·have:=of_decide_eq_true x;omega
   refine br (fun x=>?_) (fun _=>?_)
   ·simp [ak] at x;omega
   refine br (fun x=>?_) (fun _=>?_)
   ·simp [ak] at x;omega
   refine ⟨_,?_,rfl⟩;rw [hS];exact (o9 vc)
 ·have k9:¬ h.ay=9:=sU k9;rw [af (by simp [k9])] at hS;refine br ?_ ?_<;>intro k4
  ·have k4:h.ay=4:=of_decide_eq_true k4;rw [zIfP k4] at hS;refine br ?_ ?_<;>intro c
   ·have c:h.ag=[]:=by simp [aD] at c;exact c
    refine cP iK (hW 15 h.cT) ?_;refine ⟨_,?_,rfl⟩;rw [hS];simp only [jM,zIfP c];exact ax
   have c:¬ h.ag=[]:=by simp [aD] at c;exact c
   refine br ?_ ?_<;>intro c2
   ·have az:64 < h.ag.length:=by simp [aD] at c2;omega
    obtain ⟨x,hx⟩:=gX az;refine dS ?_;refine ⟨jK x,⟨by omega,bn hx⟩,?_⟩;refine cD iK (hW 8 x.a) ?_;refine ⟨_,?_,rfl⟩;rw [hS];simp only [jM,af c,zIfP az,hx,Option.getD_some];exact ax
   have c2:¬ 64 < h.ag.length:=by simp [aD] at c2;omega
   have hE:jM h=enumL h.ag 0 h.ag:=by simp only [jM,af c,af c2]
   rw [hE] at hS
   refine aY (fun j st=>∃ (e:Nat),st=NN h ps e depth (m + 1)/\e<=h.ag.length/\enumL h.ag 0 h.ag=enumL h.ag e (h.ag.drop e)/\j=h.ag.length - e) h.ag.length
    (NN h ps 0 depth (m + 1)) (ej 3 (ng vc) (wB1 vc)) ⟨0,rfl,by omega,rfl,by omega⟩ ?_
   rintro j st ⟨e,rfl,he,aQ,rfl⟩;refine br ?_ ?_<;>intro hL
   ·have az:e < h.ag.length:=by simpa [aD] using hL
    obtain ⟨x,hx⟩:=gX az;rw [drop_cons hx] at aQ;simp only [enumL] at aQ;refine cP YI (rD h.ag e x (by omega) hx) ?_;refine br ?_ ?_<;>intro hl
    ·have hl:aK h.ag e x≠0:=sU hl;rw [zIfP hl] at aQ;refine dS ?_;refine ⟨jK x,⟨by omega,bn hx⟩,?_⟩;refine cD iK (fp (0,0) (m + 1) _ x.a) ?_;refine ⟨_,?_,rfl⟩;rw [hS,aQ];exact ax
    ·have hl:aK h.ag e x=0:=sU hl;rw [af (by simp [hl])] at aQ;exact rE ⟨_,by omega,e + 1,rfl,by omega,aQ,rfl⟩ (wkM (wB1 (nxt az (by omega))))
   ·have hge:e=h.ag.length:=by simp [aD] at hL;omega
    rw [hge,List.drop_length] at aQ;simp only [enumL] at aQ;rw [aQ] at hS;refine br (fun x=>?_) (fun _=>?_)
    ·simp [ak] at x;omega
    refine br (fun x=>?_) (fun _=>?_)
    ·simp [ak] at x;omega
    refine ⟨_,?_,rfl⟩;rw [hS];exact ax
  ·have k4:¬ h.ay=4:=of_decide_eq_false k4;rw [af k4] at hS;refine br ?_ ?_<;>intro k5
   ·have k5:h.ay=5∨h.ay=6:=by simpa [ak] using k5
    rw [zIfP k5] at hS
    cases ps with
    | nil=>
     refine cP iK (hW 19 h.cT) ?_;refine ⟨_,?_,rfl⟩;rw [hS];simp only [wrongOne];exact ax
    | cons p t r=>
     cases r with
     | cons p2 t2 r2=>
      refine cP iK (hW 19 h.cT) ?_;refine ⟨_,?_,rfl⟩;rw [hS];simp only [wrongOne];exact ax
     | nil=>
      obtain ⟨u,us⟩:=t;simp only [wrongOne] at hS;simp only [Ty.wt,Pts.wt] at Ds hk;refine ⟨_,⟨by omega,rfl⟩,?_⟩;refine br ?_ ?_<;>intro c
      ·have c:p.name.s=aM:=by
        have:=c;simp [ak] at this;exact this
       refine ⟨_,⟨by omega,rfl⟩,?_⟩;refine cP RX (ov p dP (cL (.mk u us)) (cL cp) (by omega) (CV _ _ _ _ _) (CV _ _ _ _ _)) ?_;refine br ?_ ?_<;>intro q
       ·have q:cY p dP=false:=by simpa [ak,c] using q
        refine cP iK (hW 19 h.cT) ?_;rw [zIfP (by simp [q])] at hS;refine ⟨_,?_,rfl⟩;rw [hS];exact ax
       ·have q:cY p dP=true:=by simpa [ak,c] using q
        rw [af (by simp [q,c])] at hS;refine br ?_ ?_<;>intro x
        ·have x:h.most < 0∨1024 < h.most:=by simpa [ak] using x
         refine cP iK (hW 20 h.cT) ?_;rw [zIfP x] at hS;refine ⟨_,?_,rfl⟩;rw [hS];exact ax
        ·have x:¬ (h.most < 0∨1024 < h.most):=by simp [ak] at x;omega
         rw [af x] at hS;refine dS ?_;refine ⟨_,⟨by omega,rfl⟩,?_⟩;refine cD RM (ih (.mk u us) (depth + 1) (m + 1) (by simp only [Ty.wt];omega) (by simp only [Ty.wt];omega) (by omega) (by omega) (by omega) (by omega)) ?_ (by repeat' (first | exact rfl | exact trivial | exact Or.inr (Or.inl ⟨_,rfl⟩) | exact Or.inr ⟨_,rfl⟩ | exact Or.inl ⟨rfl,rfl⟩ | exact Or.inl rfl | refine Or.inr ⟨_,_,rfl,Nat.zero_le _,rfl,?_⟩ | refine ⟨_,_,rfl,?_,?_⟩ | refine ⟨_,rfl,?_⟩ | exact congrArg (fun z=>DV.v (.int .i64 z)) vc | exact congrArg (fun z=>DV.v (.int .i64 z)) (wrap64 (by omega) (by omega))| refine Or.inr (Or.inr (Or.inr ⟨_,_,rfl,?_⟩)) | exact Or.inl rfl | refine Or.inr ?_));refine ⟨_,?_,rfl⟩;rw [hS];exact ax
      ·have c:p.name.s≠aM:=by
        have:=c;simp [ak] at this;exact this
       refine cP iK (hW 19 h.cT) ?_;rw [zIfP (.inl c)] at hS;refine ⟨_,?_,rfl⟩;rw [hS];exact ax
   ·have k5:¬ (h.ay=5∨h.ay=6):=by simp [ak] at k5;omega
    rw [af k5] at hS;refine br ?_ ?_<;>intro k7
    ·have k7:h.ay=7∨h.ay=8:=by simpa [ak] using k7
     rw [zIfP k7] at hS;have hP:wrong (.mk h ps) depth m=fZ h ps depth (m + 1):=by rw [hS];all_goals rfl
     refine cP aeI (Fg k ih h ps depth (m + 1) hk c7 BP (by omega) (by omega) (by omega)) ?_ (o9 vc);refine ⟨_,?_,rfl⟩;rw [hP];exact ax
    ·have k7:¬ (h.ay=7∨h.ay=8):=by simp [ak] at k7;omega
     rw [af k7] at hS;refine ⟨_,?_,rfl⟩;rw [hS];exact (o9 vc)
theorem DJ:∀ k,Ff k
 | 0=>fun t depth m hk=>by have:=t.kj;omega
 | k + 1=>fun t depth m hk c7 BP vb oZ kO=>by
  obtain ⟨h,ps⟩:=t;have iH:=hk;simp only [Ty.wt,Hd.wt] at iH;exact FM k (DJ k) h ps depth m (by omega) c7 BP vb oZ kO
theorem FN (t:Ty) (depth m:Int) (c7:t.wt<=1099511627776) (BP:0<=depth) (vb:depth<=25) (oZ:0<=m) (kO:m<=512) :
  aR prog 106 [wD (0,0) m,.agg (cL t),.v (.int .i64 depth)] (wD (wrong t depth m).1 (wrong t depth m).2):=
 DJ t.wt t depth m (zLeR _) c7 BP vb oZ kO
def eaA:List Ty->Int->Ft × Int
 | [],m=>((0,0),m)
 | t :: r,m=>if (cC t m).1.1≠0 then cC t m else eaA r (cC t m).2
theorem TW (z:Ty):∀ (l:List (Wd × Ty)) (m:Int),((eaA (l.map (fun x=>x.2) ++ [z]) m).1.1=0↔(eaR z l m).1.1=0)/\((eaR z l m).1.1≠0->eaA (l.map (fun x=>x.2) ++ [z]) m=eaR z l m)
 | [],m=>by
  show ((eaA [z] m).1.1=0↔(cC z m).1.1=0)/\((cC z m).1.1≠0->eaA [z] m=cC z m)
  grind [eaA,cC]
 | x :: r,m=>by
  have ih:=TW z r (cC x.2 m).2
  grind [eaA,eaR,cC]
def eaK (F:Ty->Ft):List Ty->Ft
 | []=>(0,0)
 | t :: r=>if (F t).1≠0 then F t else eaK F r
theorem TX (F:Ty->Ft) (z:Ty):∀ l:List (Wd × Ty),((eaK F (l.map (fun x=>x.2) ++ [z])).1=0↔(eaL F (F z) l).1=0)/\((eaL F (F z) l).1≠0->eaK F (l.map (fun x=>x.2) ++ [z])=eaL F (F z) l)
 | []=>by
  show ((eaK F [z]).1=0↔(F z).1=0)/\((F z).1≠0->eaK F [z]=F z)
  grind [eaK]
 | x :: r=>by
  have ih:=TX F z r
  grind [eaK,eaL]
theorem Lf {F:Ty->Ft}:∀ {l:List Ty},(eaK F l).1=0->∀ t∈l,(F t).1=0
 | [],_,t,ht=>by cases ht
 | u :: r,h,t,ht=>by
  rw [eaK] at h;split at h
  ·rename_i h1;exact (h1 h).elim
  ·rename_i h1;rcases eU ht with rfl | ht
   ·simpa using h1
   ·exact Lf h t ht
theorem NO (S:Sch):jf S=if (latF S.ae S.order).1≠0 then latF S.ae S.order
 else if (fF S).1≠0 then fF S
 else if (eaA (jg S) 0).1.1≠0 then (eaA (jg S) 0).1
 else if (eaK (n9 S) (jg S)).1≠0 then eaK (n9 S) (jg S)
 else loopF S:=by
 have h1:=TW S.root S.types 0;have h2:=TX (n9 S) S.root S.types;unfold jf jg iL;by_cases a:(eaR S.root S.types 0).1.1=0
 ·grind
 ·grind
abbrev abM (S:Sch) (T:List Ty) (m:Int) (e:Nat):St:=
 ⟨[aJ 1 0,aJ 2 1,bJ 5 9 (jv T),aC 6 m,aC 7 e],[dt S,[.v (.int .i64 0),.v (.int .i64 0)]],[]⟩
abbrev agN (S:Sch) (T:List Ty) (e:Nat):St:=
 ⟨[aJ 1 0,aJ 2 1,bJ 5 9 (jv T),aC 11 e],[dt S,[.v (.int .i64 0),.v (.int .i64 0)]],[]⟩
abbrev abN (S:Sch) (e:Nat):St:=
 ⟨[aJ 1 0,aJ 2 1,aC 13 e],[dt S,[.v (.int .i64 0),.v (.int .i64 0)]],[]⟩
theorem FO {S:Sch} (hs:S.wt<=1099511627776):∀ t∈jg S,t.wt<=1099511627776:=by
 intro t ht;unfold Sch.wt at hs;rcases List.mem_append.1 ht with h | h
 ·obtain ⟨x,hx,rfl⟩:=List.mem_map.1 h;have:=jO hx;omega
 all_goals grind
theorem FP (S:Sch) (hs:S.wt<=1099511627776):aR prog 42 [.agg (dt S)] (jf S).d:=by
 have hAl:=FO hs;unfold Sch.wt at hs;have hN:=bS S.types;have ir:=nk S.types;have PT:=FK S.ae S.order (by omega) (by omega);have agO:=FL S (by omega);have fW:=Ir S (by omega);have agP:=fun t ht=>ux S (by omega) (by omega) _ t (zLeR _) (hAl t ht);have hF:=NO S;have hlen:(jg S).length=S.types.length + 1:=by simp [jg,iL]
 have hnF:(fF S).1=0->S.types.length<=64:=fun h=>by grind [fF]
 obtain ⟨ae,order,types,⟨rh,rp⟩⟩:=S;simp only at hs hN ir PT agO hlen hnF hF;generalize hT:jg ⟨ae,order,types,.mk rh rp⟩=T at hAl fW agP hlen hF;refine eG 104 [.cell 2 26] func42 rfl ntmps42 rfl fun _ _ _ _=>?_;generalize jf ⟨ae,order,types,.mk rh rp⟩=F at hF ⊢;refine cP aen PT ?_;refine br ?_ ?_<;>intro h1
 ·have h1:(latF ae order).1≠0:=sU h1;rw [zIfP h1] at hF;refine ⟨_,?_,rfl⟩;rw [hF];exact ax
 have h1:(latF ae order).1=0:=sU h1;rw [af (by simp [h1])] at hF;refine cP aeo agO ?_;refine br ?_ ?_<;>intro h2
 ·have h2:(fF ⟨ae,order,types,.mk rh rp⟩).1≠0:=sU h2;rw [zIfP h2] at hF;refine ⟨_,?_,rfl⟩;rw [hF];exact ax
 have h2:(fF ⟨ae,order,types,.mk rh rp⟩).1=0:=sU h2;rw [af (by simp [h2])] at hF;have h64:=hnF h2;refine cP aec fW ?_
 refine aY (fun j st=>∃ (e:Nat) (m:Int),st=abM ⟨ae,order,types,.mk rh rp⟩ T m e/\e<=types.length + 1/\0<=m/\m<=512/\eaA T 0=eaA (T.drop e) m/\j=types.length + 1 - e) (types.length + 1)
  (abM ⟨ae,order,types,.mk rh rp⟩ T 0 0) (wkM wB) ⟨0,0,rfl,by omega,by omega,by omega,rfl,by omega⟩ ?_
 rintro j st ⟨e,m,rfl,he,oZ,kO,aQ,rfl⟩;refine br ?_ ?_<;>intro hL
 ·have az:e < types.length + 1:=by have:=hL;simp [eK,hlen] at this;omega
  obtain ⟨t,ht⟩:∃ t,T[e]? = some t:=⟨_,gE (by omega)⟩;have Tg:=hAl t (mG ht);have hst:eaA (T.drop e) m=if (cC t m).1.1≠0 then cC t m else eaA (T.drop (e + 1)) (cC t m).2:=by rw [drop_cons ht,eaA]
  have hrf:cC t m=if (wrong t 1 0).1.1≠0 then ((wrong t 1 0).1,m) else if 512 < m + t.cnt then ((8,t.h.cT),m + t.cnt) else ((0,0),m + t.cnt):=rfl
  have PI:=FN t 1 0 Tg (by omega) (by omega) (by omega) (by omega);have cK:=xC _ t (zLeR _) Tg;have QV:=t.fy;obtain ⟨u,us⟩:=t;refine iX (lL ht) ?_;refine cP RM PI ?_;refine br ?_ ?_<;>intro g1
  ·have g1:(wrong (.mk u us) 1 0).1.1≠0:=sU g1;rw [zIfP g1] at hrf;rw [aQ,hst,hrf,zIfP g1,zIfP g1] at hF;refine ⟨_,?_,rfl⟩;rw [hF];exact ax
  have g1:(wrong (.mk u us) 1 0).1.1=0:=sU g1;rw [af (by simp [g1])] at hrf;refine iX (lL ht) ?_;refine cP aea cK ?_;have CW:IntKind.i64.wrap (m + ((Ty.mk u us).cnt:Int))=m + (Ty.mk u us).cnt:=wrap64 (by omega) (by omega);refine br ?_ ?_<;>intro g2
  ·have g2:512 < IntKind.i64.wrap (m + ((Ty.mk u us).cnt:Int)):=of_decide_eq_true g2;rw [CW] at g2;rw [zIfP g2] at hrf;rw [aQ,hst,hrf,zIfP (by simp),zIfP (by simp)] at hF;refine iX (lL ht) ?_;refine ⟨_,?_,rfl⟩;rw [hF];exact ax
  ·have g2:¬ 512 < IntKind.i64.wrap (m + ((Ty.mk u us).cnt:Int)):=of_decide_eq_false g2;rw [CW] at g2;rw [af g2] at hrf;rw [hrf,af (by simp)] at hst;exact ⟨abM ⟨ae,order,types,.mk rh rp⟩ T (m + (Ty.mk u us).cnt) (e + 1),(wkM (wB2 CW (nxt az (by omega)))),types.length + 1 - (e + 1),by omega,e + 1,_,rfl,by omega,by omega,by omega,by rw [aQ,hst],rfl⟩
 have hge:e=types.length + 1:=by have:=hL;simp [eK,hlen] at this;omega
 rw [aQ,List.drop_of_length_le (by omega),show eaA [] m=((0,0),m) from rfl,af (by simp)] at hF
 refine aY (fun j st=>∃ (e:Nat),st=agN ⟨ae,order,types,.mk rh rp⟩ T e/\e<=types.length + 1/\eaK (n9 ⟨ae,order,types,.mk rh rp⟩) T=eaK (n9 ⟨ae,order,types,.mk rh rp⟩) (T.drop e)/\j=types.length + 1 - e) (types.length + 1)
  (agN ⟨ae,order,types,.mk rh rp⟩ T 0) (wkM wB) ⟨0,rfl,by omega,rfl,by omega⟩ ?_
 clear aQ hL hge he e;rintro j st ⟨e,rfl,he,aQ,rfl⟩;refine br ?_ ?_<;>intro hL
 ·have az:e < types.length + 1:=by have:=hL;simp [eK,hlen] at this;omega
  obtain ⟨t,ht⟩:∃ t,T[e]? = some t:=⟨_,gE (by omega)⟩;have hst:eaK (n9 ⟨ae,order,types,.mk rh rp⟩) (T.drop e)=if (n9 ⟨ae,order,types,.mk rh rp⟩ t).1≠0 then n9 ⟨ae,order,types,.mk rh rp⟩ t else eaK (n9 ⟨ae,order,types,.mk rh rp⟩) (T.drop (e + 1)):=by rw [drop_cons ht,eaK]
  have hu:=agP t (mG ht);obtain ⟨u,us⟩:=t;apply qL (fun _=>false) 5 6 [0,1,2,3,4,5,6,7] [0,1,2,3,4,6,5,7] 2 2 mo (by decide +kernel)
  ·refine iX (lL ht) ?_;refine cD RN hu ?_;refine (?_:@Eq St _ _);exact rfl
  ·refine iX (lL ht) ?_;refine cD RN hu ?_;refine (⟨rfl,rfl,?_⟩:_/\_/\_)
   repeat' (first | exact trivial | refine ⟨rfl,?_⟩)
  ·rfl
  refine br ?_ ?_<;>intro g
  ·have g:(n9 ⟨ae,order,types,.mk rh rp⟩ (.mk u us)).1≠0:=sU g;rw [aQ,hst,zIfP g,zIfP g] at hF;refine ⟨_,?_,rfl⟩;rw [hF];exact ax
  ·have g:(n9 ⟨ae,order,types,.mk rh rp⟩ (.mk u us)).1=0:=sU g;rw [af (by simp [g])] at hst;exact rE ⟨_,by omega,e + 1,rfl,by omega,by rw [aQ,hst],rfl⟩ (wkM (wB1 (nxt az (by omega))))
 have hge:e=types.length + 1:=by have:=hL;simp [eK,hlen] at this;omega
 have Rw:(eaK (n9 ⟨ae,order,types,.mk rh rp⟩) T).1=0:=by rw [aQ,List.drop_of_length_le (by omega)];all_goals rfl
 rw [aQ,List.drop_of_length_le (by omega),show eaK (n9 ⟨ae,order,types,.mk rh rp⟩) []=(0,0) from rfl,af (by simp)] at hF
 have ZC:∀ x∈types,ym ⟨ae,order,types,.mk rh rp⟩ x.2=true:=fun x hx=>FH (Lf Rw x.2 (by
  rw [<- hT]
  exact List.mem_append_left _ (List.mem_map_of_mem hx)))
 have he99:=AP ⟨ae,order,types,.mk rh rp⟩ h64 ZC
 have hlo:F=match cA (fun i=>(endI ⟨ae,order,types,.mk rh rp⟩ (types.length + 1) i).isNone) types.length with
  | none=>(0,0)
  | some i=>(11,atN (yk ⟨ae,order,types,.mk rh rp⟩) i):=hF
 refine aY (fun j st=>∃ e:Nat,st=abN ⟨ae,order,types,.mk rh rp⟩ e/\e<=types.length/\(∀ i,i < e->(endI ⟨ae,order,types,.mk rh rp⟩ (types.length + 1) i).isNone=false)/\j=types.length - e) types.length
  (abN ⟨ae,order,types,.mk rh rp⟩ 0) (wkM wB) ⟨0,rfl,by omega,fun _ h=>by omega,by omega⟩ ?_
 clear aQ hL hge he e;rintro j st ⟨e,rfl,he,hno,rfl⟩;refine br ?_ ?_<;>intro hL
 ·have az:e < types.length:=by have:=hL;simp [hN] at this;exact this
  obtain ⟨x,hx⟩:=gX az;have hxn:(yk ⟨ae,order,types,.mk rh rp⟩)[e]? = some x.1:=NL hx;have h9:=he99 e az;obtain ⟨xw,⟨xh,xp⟩⟩:=x;refine cP RO h9 ?_;refine br ?_ ?_<;>intro g
  ·have g:endI ⟨ae,order,types,.mk rh rp⟩ (types.length + 1) e=none:=gT.1 g;have s6:=dR (p:=fun i=>(endI ⟨ae,order,types,.mk rh rp⟩ (types.length + 1) i).isNone) az (by simp only [g];rfl) hno;rw [s6] at hlo;simp only [mq hxn] at hlo;refine iX (dNms_get hx) ?_;refine ⟨_,?_,rfl⟩;rw [hlo];exact ax
  ·have g:¬ endI ⟨ae,order,types,.mk rh rp⟩ (types.length + 1) e=none:=fun hn=>by have h3:=gT.2 hn;rw [g] at h3;cases h3
   refine ⟨abN ⟨ae,order,types,.mk rh rp⟩ (e + 1),(wkM (wB1 (nxt az (by omega)))),types.length - (e + 1),by omega,e + 1,rfl,by omega,fun i hi=>?_,rfl⟩;rcases rP hi with hi | rfl
   ·exact hno i hi
   ·exact Option.isNone_eq_false_iff.2 (Option.isSome_iff_ne_none.2 g)
 ·have hge:e=types.length:=sW hN hL;rw [hge] at hno;rw [eI hno] at hlo;refine ⟨_,?_,rfl⟩;rw [hlo];exact ax
theorem Xn (vs:Array Value) (n:ByteArray) (b:Bool) (z1 z2 z3 z4 z5 z6 z7 z8:Int) (w:World) (hv:vs = #[.string n,.bool b,.int .i64 z1,.int .i64 z2,.int .i64 z3,.int .i64 z4,.int .i64 z5,.int .i64 z6,.int .i64 z7,.int .i64 z8]) :
  (binOp .neq 89 (.agg vs) (.agg vs)).run prog w = .ok (.bool false) w:=by
 have hf:prog.underlying 89=some (.struct (prog.fieldsOf 89)):=by simp [Program.fieldsOf,Tryz.underlying89]
 have BW:(prog.fieldsOf 89).toList=[⟨ "Name",9,0,false, "", "",0⟩,⟨ "Bare",4,1,false, "", "",16⟩,⟨ "At",3,2,false, "", "",24⟩,⟨ "To",3,3,false, "", "",32⟩,⟨ "Label",3,4,false, "", "",40⟩,⟨ "Wide",3,5,false, "", "",48⟩,⟨ "Coarse",3,6,false, "", "",56⟩,⟨ "N",3,7,false, "", "",64⟩,⟨ "Seen",3,8,false, "", "",72⟩,⟨ "CoarseAt",3,9,false, "", "",80⟩]:=by simp [Program.fieldsOf,Tryz.underlying89]
 have hs:prog.stoodInHeld 89=false:=by kernel_rfl
 obtain ⟨d,hm⟩:∃ d,Op.maxDepth=d + 1 + 1:=⟨Op.maxDepth - 2,by decide⟩
 have q9:∀ cs:Array Value,∀ off v,cs[off]? = some v->(part 9 cs off).run prog w = .ok v w:=fun cs off v h=>by
  simp [part,Tryz.isAgg9,h]
 have q4:∀ cs:Array Value,∀ off v,cs[off]? = some v->(part 4 cs off).run prog w = .ok v w:=fun cs off v h=>by
  simp [part,Tryz.isAgg4,h]
 have q3:∀ cs:Array Value,∀ off v,cs[off]? = some v->(part 3 cs off).run prog w = .ok v w:=fun cs off v h=>by
  simp [part,Tryz.isAgg3,h]
 have g0:=q9 vs 0 (.string n) (by rw [hv];rfl);have g1:=q4 vs 1 (.bool b) (by rw [hv];rfl);have g2:=q3 vs 2 (.int .i64 z1) (by rw [hv];rfl);have g3:=q3 vs 3 (.int .i64 z2) (by rw [hv];rfl);have g4:=q3 vs 4 (.int .i64 z3) (by rw [hv];rfl);have g5:=q3 vs 5 (.int .i64 z4) (by rw [hv];rfl);have g6:=q3 vs 6 (.int .i64 z5) (by rw [hv];rfl);have g7:=q3 vs 7 (.int .i64 z6) (by rw [hv];rfl);have g8:=q3 vs 8 (.int .i64 z7) (by rw [hv];rfl);have g9:=q3 vs 9 (.int .i64 z8) (by rw [hv];rfl);have r9:=fun a=>run_equalIn_string w d 9 a a Tryz.underlying9;have r4:=fun a=>run_equalIn_bool w d 4 a a Tryz.underlying4;have r3:=fun a=>run_equalIn_int w d 3 .i64 .i64 a a Tryz.underlying3
 have he:(Op.equal 89 (.agg vs) (.agg vs)).run prog w = .ok true w:=by
  unfold Op.equal;rw [hm,run_equalIn_struct w (d + 1) 89 _ _ hf hs,BW];simp only [Op.eqFields,ne_eq,String.reduceEq,not_false_eq_true,if_true,Sem.run_bind,g0,g1,g2,g3,g4,g5,g6,g7,g8,g9,r9,r4,r3,Result.andThen_ok,beq_self_eq_true,Bool.not_true,Bool.false_eq_true,if_false,Sem.run_pure]
 show ((do let r <- Op.equal 89 _ _;pure (Value.bool !r)):Sem Value).run prog w=_;simp only [Sem.run_bind,he,Result.andThen_ok,Sem.run_pure,Bool.not_true]
theorem TY (w:World) (x y:Operand) (vs vs':Array Value):(eqGuard .neq 89 x y (.agg vs) (.agg vs')).run prog w = .ok () w:=by
 have h:prog.eqGuardType prog.depth 89=false:=by kernel_rfl
 simp [eqGuard,run_program,h]
theorem abQ (x y:Operand) (e:Ed):EJ prog .neq x y 89 (PB e) (PB e) false:=
 ⟨_,_,rfl,rfl,fun w=>⟨TY w x y _ _,Xn _ _ _ _ _ _ _ _ _ _ _ w rfl⟩⟩
theorem j9 {l:List Ed} {i:Nat} {e:Ed} (h:l[i]? = some e):(lZ l)[i]? = some (PB e):=by simp [lZ,h]
def Xo (lev:List Wd->Int) (s:Sch) (t:Ty) (k:Nat):Nd:=⟨t.h.ay,t.h.cT,t.h.lo,t.h.hi,t.h.most,aF t.h.ag,edsP lev s t.ps (k + 1)⟩
mutual
theorem yJ (lev:List Wd->Int) (s:Sch):∀ (t:Ty) (k:Nat),ndsT lev s t k=(flatT t).zipIdx.map fun x=>Xo lev s x.1 (k + x.2)
 | .mk h ps,k=>by
  have ih:=FQ lev s ps (k + 1);rw [ndsT,flatT];split
  ·rfl
  ·rw [ih,List.zipIdx_cons,List.map_cons];rw [List.zipIdx_succ,List.map_map];refine congr (congrArg List.cons rfl) (List.map_congr_left fun x _=>?_);simp only [Function.comp];congr 1;omega
theorem FQ (lev:List Wd->Int) (s:Sch):∀ (ps:Pts) (k:Nat),AD lev s ps k=(flatP ps).zipIdx.map fun x=>Xo lev s x.1 (k + x.2)
 | .nil,k=>rfl
 | .cons p u r,k=>by
  rw [AD,flatP,List.zipIdx_append,List.map_append]
  cases hb:p.bare with
  | true=>
   simp only [if_true,List.zipIdx_nil,List.map_nil,List.nil_append,List.length_nil,Nat.add_zero];exact FQ lev s r k
  | false=>
   simp only [Bool.false_eq_true,if_false];rw [yJ lev s u k,FQ lev s r (k + u.nn),kU];refine congrArg _ ?_;rw [List.zipIdx_eq_map_add (l:=flatP r) (i:=0 + u.nn)];rw [List.map_map];refine List.map_congr_left fun x _=>?_;simp only [Function.comp];congr 1;omega
end
theorem FR {X:Lx} {L:List ByteArray}:∀ {ps:Pts},(knP X L ps).1=0->∀ {p:Ph} {u:Ty},(p,u)∈ps.toList->p.bare=false->(knT X L u).1=0
 | .nil,_,p,u,h,_=>by cases h
 | .cons q v r,hk,p,u,h,hb=>by
  rcases eU h with h | h
  ·cases h;exact (wi hk).1 hb
  ·exact FR (wi hk).2 h hb
theorem wE {w:Int} (h:decide (w=0)=true):nD w=3:=by unfold nD;rw [zIfP (of_decide_eq_true h)]
theorem wF {w:Int} (h:decide (w=0)=false):nD w=w:=by unfold nD;rw [af (of_decide_eq_false h)]
theorem ig {L:List Ed} {lev:List Wd->Int} {p:Ph} {to w z:Int} (hw:nD p.wide=w) (ht:to=z):lZ L ++ [[.v (.string p.name.s),.v (.bool p.bare),.v (.int .i64 p.name.a),.v (.int .i64 z),.v (.int .i64 (lev p.label)),.v (.int .i64 w),.v (.int .i64 p.ck),.v (.int .i64 p.cn),.v (.int .i64 (lev p.cl)),.v (.int .i64 p.ca)]]=lZ (L ++ [AB lev p to]):=by
 subst hw ht;simp [lZ,PB,AB]
abbrev agQ (S:Sch) (f:Nat->Nat->Bool) (t:Ty) (me:Nat) (q e:Nat):St:=
 ⟨[bJ 1 1 (dM (eS S.ae.length f)),aC 3 me,aJ 4 0,aJ 6 1,aJ 8 2,aJ 9 3,aC 10 e],
  [dt S,cL t,[.v (.int .i64 0),.v (.int .i64 0),.v (.int .i64 0),.v (.int .i64 0),.v (.int .i64 0),.v (.slice none 0 0),.v (.slice none 0 0)],
  [.v (.int .i64 t.h.ay),.v (.int .i64 t.h.cT),.v (.int .i64 t.h.lo),.v (.int .i64 t.h.hi),.v (.int .i64 t.h.most),.sl 1 (fQ (aF (t.h.ag.take e))) (some 0),.v (.slice none 0 0)]],[⟨q,9,1,none⟩]⟩
abbrev Iv (S:Sch) (f:Nat->Nat->Bool) (t:Ty) (q1 q2:Nat) (L:List Ed) (nx e:Nat):St:=
 ⟨[bJ 1 1 (dM (eS S.ae.length f)),aJ 4 0,aJ 6 1,aJ 8 2,aJ 9 3,aC 11 nx,aC 12 e],
  [dt S,cL t,[.v (.int .i64 0),.v (.int .i64 0),.v (.int .i64 0),.v (.int .i64 0),.v (.int .i64 0),.v (.slice none 0 0),.v (.slice none 0 0)],
  [.v (.int .i64 t.h.ay),.v (.int .i64 t.h.cT),.v (.int .i64 t.h.lo),.v (.int .i64 t.h.hi),.v (.int .i64 t.h.most),.sl 1 (fQ (aF t.h.ag)) (some 0),.sl 10 (lZ L) (some 1)]],[⟨q1,9,1,none⟩,⟨q2,89,10,none⟩]⟩
set_option maxHeartbeats 2000000 in
theorem Lg (S:Sch) (hS:S.wt<=1099511627776) (hl:(latF S.ae S.order).1=0) (h64:S.types.length<=64) (hr:∀ x∈S.types,ym S x.2=true) (hlo:∀ i,i < S.types.length->∃ k,endI S (S.types.length + 1) i=some k)
  (t:Ty) (ht:t.wt<=1099511627776) (hk:(n9 S t).1=0) (me:Nat) (hme:me<=1099511627776) :
  aR prog 52 [.agg (dt S),.sl 1 (dM (eS S.ae.length (fC S.ae.length (dL (aF S.ae) S.order)))) none,.agg (cL t),.v (.int .i64 me)] (.agg (GG (Xo (jU S) S t me))):=by
 obtain ⟨hL,JR⟩:=nF hl;have lk:=hL.pos;unfold Sch.wt at hS;have K1:=fun l (h:wdsWt l<=1099511627776)=>PS S.ae (fC S.ae.length (dL (aF S.ae) S.order)) lk JR (by omega) l h;have Xp:∀ l,jU S l=FB (fC S.ae.length (dL (aF S.ae) S.order)) (aF S.ae) l:=fun _=>rfl;have Xq:=fun s i k=>AQ S h64 (by omega) hr s i k;have gf:=mI S;generalize fC S.ae.length (dL (aF S.ae) S.order)=f at K1 Xp ⊢;obtain ⟨h,ps⟩:=t;have hkp:=(p9 hk).2;simp only [Ty.wt,Hd.wt] at ht;have jZ:=ps.gP;have hc:=ps.fy;have tw:=ps.iz;have hwl:=bW h.ag;generalize JQ:jU S=lev at Xp ⊢;obtain ⟨ae,order,types,⟨rh,rp⟩⟩:=S;simp only at hS h64 hr hlo K1 Xp Xq gf hkp;refine eG 131 [.cell 8 87] func52 rfl ntmps52 rfl fun _ _ _ _=>?_;refine lJ (fun e=>agQ ⟨ae,order,types,.mk rh rp⟩ f (.mk h ps) me e e) h.ag.length (di 4 ⟨0,9,1,none⟩ rfl rfl rfl tJ rfl rfl lW) ?_;intro e he;refine br ?_ ?_<;>intro hL
 ·have az:e < h.ag.length:=by have:=hL;simp [aD] at this;exact this
  obtain ⟨w,hw⟩:=gX az;have pz:=kP hw;have ju:(fQ (aF (h.ag.take e))).length=e:=by simp [fQ,aF];omega
  refine dS ?_;refine iX (bn hw) ?_;refine ⟨ju,⟨by simp only [Ty.h];rw [ju];simp [maxLen];omega,by simp only [Ty.h];rw [ju];simp;omega⟩,?_⟩;exact rE ⟨_,by omega,e + 1,rfl,by omega,rfl⟩ (ej 4 (J9 (nxt az (by omega)) pz) (wB2 (nxt az (by omega)) pz))
 have hge:e=h.ag.length:=by have:=hL;simp [aD] at this;omega
 have agR:IntKind.i64.wrap ((me:Int) + 1)=((me + 1:Nat):Int):=by rw [wrap64 (by omega) (by omega)];omega
 have J7:fQ (aF (h.ag.take e))=fQ (aF h.ag):=by rw [hge,List.take_length]
 refine aY (fun j st=>∃ (e q nx:Nat) (L:List Ed),st=Iv ⟨ae,order,types,.mk rh rp⟩ f (.mk h ps) h.ag.length q L nx e/\q=e/\L.length=e/\e<=ps.len/\nx + (ps.drop e).nn=me + 1 + ps.nn/\edsP lev ⟨ae,order,types,.mk rh rp⟩ ps (me + 1)=L ++ edsP lev ⟨ae,order,types,.mk rh rp⟩ (ps.drop e) nx/\j=ps.len - e) ps.len
  (Iv ⟨ae,order,types,.mk rh rp⟩ f (.mk h ps) e 0 [] (me + 1) 0) (di 4 ⟨0,89,10,none⟩ rfl rfl rfl (J9 agR J7) rfl rfl (wB2 agR J7)) ⟨0,0,me + 1,[],by rw [hge],rfl,rfl,by omega,rfl,rfl,by omega⟩ ?_
 clear he hL hge J7 e;rintro j st ⟨e,q,nx,L,rfl,hq,VG,he,GF,aQ,rfl⟩;refine br ?_ ?_<;>intro hL
 ·have az:e < ps.len:=by simpa [aP] using hL
  obtain ⟨p,u,hx⟩:=Pts.fx az;have BQ:=Pts.iu (mG hx);have s7:p.name.wt + wdsWt p.label + wdsWt p.cl<=p.wt:=by simp only [Ph.wt];omega
  rw [Pts.drop_cons hx,edsP] at aQ;rw [Pts.drop_cons hx,Pts.nn] at GF;have jr:=K1 p.label (by omega);have wg:=K1 p.cl (by omega);unfold Pz at jr wg;rw [<- Xp] at jr wg;obtain ⟨uh,us⟩:=u;refine iX (ch hx) ?_;refine br ?_ ?_<;>intro hw
  all_goals
   refine cP Yz jr ?_;refine cP Yz wg ?_;have ju:(lZ L).length=q:=by rw [eJ,VG,hq]
   refine br ?_ ?_<;>intro hB
   ·have hB:p.bare=true:=hB;have wh:yH ⟨ae,order,types,.mk rh rp⟩ p (.mk uh us) nx = -1:=by simp [yH,hB]
    rw [hB] at aQ GF;refine ⟨ju,⟨by rw [ju];simp [maxLen];omega,by rw [ju];simp;omega⟩,?_⟩;exact ⟨Iv ⟨ae,order,types,.mk rh rp⟩ f (.mk h ps) h.ag.length (q + 1) (L ++ [AB lev p (yH ⟨ae,order,types,.mk rh rp⟩ p (.mk uh us) nx)]) nx (e + 1),(ej 4 (by repeat' (first | exact rfl | exact aA rfl | exact aG (nxt az (by omega)) | exact cS (ig (wE hw) wh) rfl | exact cS (ig (wF hw) wh) rfl | refine ⟨_,_,rfl,?_,?_⟩)) (by repeat' (first | exact trivial | exact aA rfl | exact aG (nxt az (by omega)) | exact cS (ig (wE hw) wh) rfl | exact cS (ig (wF hw) wh) rfl | refine ⟨⟨_,rfl,?_⟩,?_⟩))),ps.len - (e + 1),by omega,e + 1,q + 1,nx,_,rfl,by omega,by simp [VG],by omega,by rw [<- GF];simp,by rw [aQ];simp,rfl⟩
   ·have hB:p.bare=false:=hB;have il:=FR hkp (mG hx) hB;refine br ?_ ?_<;>intro h9
    ·have h9:uh.ay=9:=sU h9;obtain ⟨i,hi⟩:=Option.ne_none_iff_exists'.1 ((p9 il).1 h9);obtain ⟨k,hk⟩:=hlo i (by have:=(dX hi).1;omega);have wh:yH ⟨ae,order,types,.mk rh rp⟩ p (.mk uh us) nx=(firstA ⟨ae,order,types,.mk rh rp⟩ k:Int):=by simp [yH,hB,sD,Ty.h,h9,nmF,hi,namedN,hk]
     refine cP aed (Xq uh.name.s i k hi hk) ?_;refine ⟨ju,⟨by rw [ju];simp [maxLen];omega,by rw [ju];simp;omega⟩,?_⟩;exact ⟨Iv ⟨ae,order,types,.mk rh rp⟩ f (.mk h ps) h.ag.length (q + 1) (L ++ [AB lev p (yH ⟨ae,order,types,.mk rh rp⟩ p (.mk uh us) nx)]) nx (e + 1),(ej 4 (by repeat' (first | exact rfl | exact aA rfl | exact aG (nxt az (by omega)) | exact cS (ig (wE hw) wh) rfl | exact cS (ig (wF hw) wh) rfl | refine ⟨_,_,rfl,?_,?_⟩)) (by repeat' (first | exact trivial | exact aA rfl | exact aG (nxt az (by omega)) | exact cS (ig (wE hw) wh) rfl | exact cS (ig (wF hw) wh) rfl | refine ⟨⟨_,rfl,?_⟩,?_⟩))),ps.len - (e + 1),by omega,e + 1,q + 1,nx,_,rfl,by omega,by simp [VG],by omega,by rw [<- GF];simp [hB,Ty.nn,h9],by rw [aQ];simp [hB,Ty.nn,h9],rfl⟩
    ·have h9:¬ uh.ay=9:=sU h9;have wh:yH ⟨ae,order,types,.mk rh rp⟩ p (.mk uh us) nx=(nx:Int):=by simp [yH,hB,sD,Ty.h,h9]
     have hnn:=(Ty.mk uh us).iz;have VA:=(Ty.mk uh us).fy
     have CW:IntKind.i64.wrap ((nx:Int) + (jv (flatT (.mk uh us))).length)=((nx + (Ty.mk uh us).nn:Nat):Int):=by
      rw [eK,kU,wrap64 (by omega) (by omega)];omega
     refine cP Wq (qV _ (.mk uh us) (zLeR _) (by omega)) ?_;refine ⟨ju,⟨by rw [ju];simp [maxLen];omega,by rw [ju];simp;omega⟩,?_⟩;exact ⟨Iv ⟨ae,order,types,.mk rh rp⟩ f (.mk h ps) h.ag.length (q + 1) (L ++ [AB lev p (yH ⟨ae,order,types,.mk rh rp⟩ p (.mk uh us) nx)]) (nx + (Ty.mk uh us).nn) (e + 1),(ej 4 (by repeat' (first | exact rfl | exact aA rfl | exact aG (nxt az (by omega)) | exact aG CW | exact cS (ig (wE hw) wh) rfl | exact cS (ig (wF hw) wh) rfl | refine ⟨_,_,rfl,?_,?_⟩)) (by repeat' (first | exact trivial | exact aA rfl | exact aG (nxt az (by omega)) | exact aG CW | exact cS (ig (wE hw) wh) rfl | exact cS (ig (wF hw) wh) rfl | refine ⟨⟨_,rfl,?_⟩,?_⟩))),ps.len - (e + 1),by omega,e + 1,q + 1,(nx + (Ty.mk uh us).nn),_,rfl,by omega,by simp [VG],by omega,by rw [<- GF];simp [hB];omega,by rw [aQ];simp [hB],rfl⟩
 have hge:e=ps.len:=by simp [aP] at hL;omega
 rw [hge,Pts.dK,edsP,List.append_nil] at aQ;unfold Xo;simp only [Ty.h,Ty.ps];rw [aQ];exact ⟨_,ax,rfl⟩
def ndsA (lev:List Wd->Int) (s:Sch):List Ty->Nat->List Nd
 | [],_=>[]
 | t :: r,k=>ndsT lev s t k ++ ndsA lev s r (k + t.nn)
def yK (l:List Ty):Nat:=(l.map Ty.nn).sum
theorem qc (t:Ty) (l:List Ty):yK (t :: l)=t.nn + yK l:=by simp [yK]
theorem FT (a b:List Ty):yK (a ++ b)=yK a + yK b:=by simp [yK]
theorem nI (lev:List Wd->Int) (s:Sch):∀ (l:List Ty) (k:Nat),(ndsA lev s l k).length=yK l
 | [],_=>rfl
 | t :: r,k=>by simp only [ndsA,List.length_append,lK,nI lev s r,qc]
theorem AR (lev:List Wd->Int) (s:Sch):∀ (a b:List Ty) (k:Nat),ndsA lev s (a ++ b) k=ndsA lev s a k ++ ndsA lev s b (k + yK a)
 | [],b,k=>by simp [ndsA,yK]
 | t :: r,b,k=>by rw [List.cons_append,ndsA,ndsA,AR lev s r b,List.append_assoc,qc,Nat.add_assoc]
theorem AS (lev:List Wd->Int) (s:Sch):∀ (l:List (Wd × Ty)) (k:Nat),ndsAll lev s l k=ndsA lev s (l.map fun x=>x.2) k
 | [],_=>rfl
 | x :: r,k=>by rw [ndsAll,List.map_cons,ndsA,AS lev s r]
theorem Iw (s:Sch):(wo s).length=yK (iL s):=by rw [wo,AS,nI];all_goals rfl
theorem nJ (s:Sch):aV s=ndsA (jU s) s (jg s) 0:=by
 unfold aV jg;rw [AR,Iw,wo,AS,ndsA,ndsA,List.append_nil,Nat.zero_add];rfl
theorem PU {lev:List Wd->Int} {s:Sch} {l:List Ty} {e:Nat} {t:Ty} (h:l[e]? = some t):ndsA lev s (l.take (e + 1)) 0=ndsA lev s (l.take e) 0 ++ ndsT lev s t (ndsA lev s (l.take e) 0).length:=by
 rw [List.take_add_one,h,AR,nI,Nat.zero_add];simp [ndsA]
theorem Ix (l:List Ty):∀ e,yK (l.take e)<=yK l:=by
 intro e;have:=FT (l.take e) (l.drop e);rw [List.take_append_drop] at this;omega
theorem Lh (s:Sch):yK (jg s)<=s.wt:=by
 have key:∀ l:List (Wd × Ty),yK (l.map fun x=>x.2)<=nmsWt l:=by
  intro l
  induction l with
  | nil=>exact zLeR _
  | cons x r ih=>
   have:=x.2.iz;have:=x.2.fy
   grind [qc,nmsWt]
 have h1:=key s.types;have h2:=s.root.iz;have h3:=s.root.fy
 grind [jg,FT,qc,Sch.wt,iL,yK]
mutual
theorem AU {X:Lx} {L:List ByteArray}:∀ (t:Ty),(knT X L t).1=0->∀ u∈flatT t,(knT X L u).1=0
 | .mk h ps,hk,u,hu=>by
  rw [flatT] at hu;split at hu
  ·cases hu
  ·rcases eU hu with rfl | hu
   ·exact hk
   ·exact Iy ps (p9 hk).2 u hu
theorem Iy {X:Lx} {L:List ByteArray}:∀ (ps:Pts),(knP X L ps).1=0->∀ u∈flatP ps,(knT X L u).1=0
 | .nil,_,u,hu=>by cases hu
 | .cons p v r,hk,u,hu=>by
  rw [flatP] at hu;rcases List.mem_append.1 hu with hu | hu
  ·cases hb:p.bare with
   | true=>rw [hb] at hu;cases hu
   | false=>rw [hb] at hu;exact AU v ((wi hk).1 hb) u hu
  ·exact Iy r (wi hk).2 u hu
end
mutual
theorem AV:∀ (t:Ty),∀ u∈flatT t,u.wt<=t.wt
 | .mk h ps,u,hu=>by
  rw [flatT] at hu;split at hu
  ·cases hu
  ·rcases eU hu with rfl | hu
   ·exact zLeR _
   ·have:=Iz ps u hu;simp only [Ty.wt];omega
theorem Iz:∀ (ps:Pts),∀ u∈flatP ps,u.wt<=ps.wt
 | .nil,u,hu=>by cases hu
 | .cons p v r,u,hu=>by
  rw [flatP] at hu;simp only [Pts.wt];rcases List.mem_append.1 hu with hu | hu
  ·split at hu
   ·cases hu
   ·have:=AV v u hu;omega
  ·have:=Iz r u hu;omega
end
theorem TZ {lev:List Wd->Int} {s:Sch} {t u:Ty} {n k:Nat} (h:(flatT t)[k]? = some u):(ndsT lev s t n)[k]? = some (Xo lev s u (n + k)):=by grind [yJ]
structure DK (S:Sch):Prop where
 lat:(latF S.ae S.order).1=0
 l64:S.types.length<=64
 kn:∀ t∈jg S,(n9 S t).1=0
 ends:∀ i,i < S.types.length->∃ k,endI S (S.types.length + 1) i=some k
 wr:∀ t∈jg S,(wrong t 1 0).1.1=0
theorem T0:∀ {l:List Ty} {m:Int},(eaA l m).1.1=0->∀ t∈l,(wrong t 1 0).1.1=0
 | [],_,_,t,ht=>by cases ht
 | u :: r,m,h,t,ht=>by
  rw [eaA] at h;split at h
  ·rename_i h1;exact (h1 h).elim
  ·rename_i h1;rcases eU ht with rfl | ht
   ·exact (qU (sU h1)).2.2.1
   ·exact T0 h t ht
theorem AW {S:Sch} (h:(jf S).1=0):DK S:=by
 rw [NO] at h;split at h
 ·rename_i h1;exact (h1 h).elim
 rename_i h1;split at h
 ·rename_i h2;exact (h2 h).elim
 rename_i h2;split at h
 ·rename_i h3;exact (h3 h).elim
 rename_i h3;split at h
 ·rename_i h4;exact (h4 h).elim
 rename_i h4
 exact {
  lat:=sU h1
  l64:=by grind [fF]
  kn:=Lf (sU h4)
  ends:=Ii h
  wr:=T0 (sU h3) }
theorem DK.refs {S:Sch} (h:DK S):∀ x∈S.types,ym S x.2=true:=fun x hx=>FH (h.kn x.2 (List.mem_append_left _ (List.mem_map_of_mem hx)))
abbrev wC (S:Sch) (f:Nat->Nat->Bool) (N:DV) (z:Int):List DV:=[.sl 2 (bA S.ae) none,.sl 1 (dM (eS S.ae.length f)) none,N,.v (.int .i64 z)]
abbrev T5 (S:Sch) (T:List Ty) (f:Nat->Nat->Bool) (L:List Nd) (z:Int) (e q:Nat):St:=
 ⟨[aJ 1 0,aJ 2 1,aJ 3 2,bJ 4 9 (jv T),aC 5 e],[dt S,[.v (.slice none 0 0),.v (.slice none 0 0),.v (.slice none 0 0),.v (.int .i64 0)],wC S f (.sl 7 (cE L) (some 0)) z],[⟨q,87,7,none⟩]⟩
abbrev ZL (S:Sch) (T:List Ty) (f:Nat->Nat->Bool) (L:List Nd) (z:Int) (e:Nat) (F:List Ty) (k q:Nat):St:=
 ⟨[aJ 1 0,aJ 2 1,aJ 3 2,bJ 4 9 (jv T),aC 5 e,bJ 6 9 (jv F),aC 7 k],[dt S,[.v (.slice none 0 0),.v (.slice none 0 0),.v (.slice none 0 0),.v (.int .i64 0)],wC S f (.sl 7 (cE L) (some 0)) z],[⟨q,87,7,none⟩]⟩
theorem uy (S:Sch) (hS:S.wt<=1099511627776) (hR:(jf S).1=0) :
  aR prog 20 [.agg (dt S)] (.agg (wC S (fC S.ae.length (dL (aF S.ae) S.order)) (.sl 7 (cE (aV S)) none) (kF S))):=by
 have VH:=AW hR;obtain ⟨_,JR⟩:=nF VH.lat;have hAl:=FO hS;have hnw:=Lh S;have hN0:=(sE VH.lat).2.2.1;have ZM:=VH.refs;have nE:=fun t ht hk me hme=>Lg S hS VH.lat VH.l64 ZM VH.ends t ht hk me hme;have hwS:=hS;unfold Sch.wt at hS;have Li:=Il S.ae S.order JR (by omega) (by omega) hN0;have fW:=Ir S (by have:=VH.l64;omega);have hlen:(jg S).length=S.types.length + 1:=by simp [jg,iL]
 have h64:=VH.l64;have Xq:=fun s i k=>AQ S h64 (by omega) ZM s i k;have Rw:=VH.kn;have NP:=VH.ends;have gf:=mI S;have H8:(jg S)[S.types.length]? = some S.root:=by grind [jg,iL]
 have hrn:=Iw S;have jt:(jg S).take S.types.length=iL S:=by grind [jg,iL]
 rw [nJ];unfold kF;generalize jU S=lev at nE ⊢;generalize fC S.ae.length (dL (aF S.ae) S.order)=f at nE Li ⊢;obtain ⟨ae,order,types,⟨rh,rp⟩⟩:=S;simp only at hS Li hlen h64 NP gf H8 jt;generalize hT:jg ⟨ae,order,types,.mk rh rp⟩=T at hAl hnw fW hlen Rw H8 jt ⊢;refine eG 67 [.cell 2 52] func20 rfl ntmps20 rfl fun _ _ _ _=>?_;apply qL (fun _=>false) 6 8 [0,1,2,3,4,5,6,7,8,9] [0,1,2,3,4,5,8,6,7,9] 2 2 mo (by decide +kernel)
 ·refine cD aaR Li ?_;refine (?_:@Eq St _ _);exact rfl
 ·refine cD aaR Li ?_;refine (⟨rfl,rfl,?_⟩:_/\_/\_)
  repeat' (first | exact trivial | refine ⟨rfl,?_⟩)
 ·rfl
 refine cP aec fW ?_
 have hLN:∀ e,(ndsA lev ⟨ae,order,types,.mk rh rp⟩ (T.take e) 0).length<=1099511627776:=fun e=>by
  rw [nI];have:=Ix T e;omega
 refine aY (fun j st=>∃ (e q:Nat) (z:Int),st=T5 ⟨ae,order,types,.mk rh rp⟩ T f (ndsA lev ⟨ae,order,types,.mk rh rp⟩ (T.take e) 0) z e q/\q=(ndsA lev ⟨ae,order,types,.mk rh rp⟩ (T.take e) 0).length/\e<=types.length + 1/\(e=types.length + 1->z=(yK (T.take types.length):Nat))/\j=types.length + 1 - e) (types.length + 1)
  (T5 ⟨ae,order,types,.mk rh rp⟩ T f [] 0 0 0) (di 3 ⟨0,87,7,none⟩ rfl rfl rfl tJ rfl rfl lW) ⟨0,0,0,rfl,rfl,by omega,fun h=>by omega,by omega⟩ ?_
 rintro j st ⟨e,q,z,rfl,hq,he,hz,rfl⟩;refine br ?_ ?_<;>intro hL
 ·have az:e < types.length + 1:=by have:=hL;simp [eK,hlen] at this;omega
  obtain ⟨t,ht⟩:∃ t,T[e]? = some t:=⟨_,gE (by omega)⟩;have Tg:=hAl t (mG ht);have htk':=Rw t (mG ht);have GA:=qV _ t (zLeR _) Tg;have hfk:=AU t htk';have hfw:=AV t;have hta:=PU (lev:=lev) (s:=⟨ae,order,types,.mk rh rp⟩) ht;have hfln:=kU t;have ir:=lK lev ⟨ae,order,types,.mk rh rp⟩ t (ndsA lev ⟨ae,order,types,.mk rh rp⟩ (T.take e) 0).length;have kB:=fun k u (h:(flatT t)[k]? = some u)=>TZ (lev:=lev) (s:=⟨ae,order,types,.mk rh rp⟩) (n:=(ndsA lev ⟨ae,order,types,.mk rh rp⟩ (T.take e) 0).length) h;have hLe:=hLN e;have abR:=hLN (e + 1);have hLs:=nI lev ⟨ae,order,types,.mk rh rp⟩ (T.take e) 0;rw [hta,List.length_append] at abR;obtain ⟨u,us⟩:=t;generalize ndsA lev ⟨ae,order,types,.mk rh rp⟩ (T.take e) 0=L at hq hta ir kB hLe abR hLs ⊢;generalize ndsT lev ⟨ae,order,types,.mk rh rp⟩ (.mk u us) L.length=M at hta ir kB abR;generalize flatT (.mk u us)=F at GA hfk hfw hfln kB;have iP:((cE L).length:Int)=(L.length:Int):=by rw [fL]
  refine iX (lL ht) ?_;refine cP Wq GA ?_
  refine aY (fun j st=>∃ (k q:Nat),st=ZL ⟨ae,order,types,.mk rh rp⟩ T f (L ++ M.take k) (L.length:Int) e F k q/\q=(L ++ M.take k).length/\k<=F.length/\j=F.length - k) F.length
   (ZL ⟨ae,order,types,.mk rh rp⟩ T f (L ++ []) (L.length:Int) e F 0 q) (ej 3 (by repeat' (first | exact rfl | exact aA rfl | exact aG iP | exact cS (by rw [List.append_nil]) rfl | refine ⟨_,_,rfl,?_,?_⟩)) (by repeat' (first | exact trivial | exact aA rfl | exact aG iP | exact cS (by rw [List.append_nil]) rfl | refine ⟨⟨_,rfl,?_⟩,?_⟩))) ⟨0,q,rfl,by simp [hq],by omega,by omega⟩ ?_
  rintro j st ⟨k,q',rfl,mY,hk,rfl⟩;refine br ?_ ?_<;>intro n7
  ·have il:k < F.length:=by have:=n7;simp [eK] at this;exact this
   obtain ⟨v,hv⟩:∃ v,F[k]? = some v:=⟨_,gE il⟩;have hvm:=mG hv;have hvw:=hfw v hvm;have ju:(cE (L ++ M.take k)).length=q':=by rw [fL,mY]
   have kN:q'=L.length + k:=by rw [mY,List.length_append,zLenT];omega
   have hnd:=nE v (by omega) (hfk v hvm) (cE (L ++ M.take k)).length (by omega)
   have pz:cE (L ++ M.take k) ++ [GG (Xo lev ⟨ae,order,types,.mk rh rp⟩ v (cE (L ++ M.take k)).length)]=cE (L ++ M.take (k + 1)):=by
    rw [List.take_add_one,kB k v hv,ju,kN];simp [cE]
   obtain ⟨vh,vp⟩:=v;refine dS ?_;refine iX (lL hv) ?_;refine cD en52 hnd ?_;refine ⟨ju,⟨by rw [ju];simp [maxLen];omega,by rw [ju];simp;omega⟩,?_⟩;exact rE ⟨_,by omega,k + 1,q' + 1,rfl,by rw [kN];simp;omega,by omega,rfl⟩ (ej 3 (J9 (nxt il (by omega)) pz) (wB2 (nxt il (by omega)) pz))
  ·have hge:k=F.length:=by have:=n7;simp [eK] at this;omega
   have hM:M.take k=M:=List.take_of_length_le (by omega);rw [hM] at mY;refine ⟨T5 ⟨ae,order,types,.mk rh rp⟩ T f (ndsA lev ⟨ae,order,types,.mk rh rp⟩ (T.take (e + 1)) 0) (L.length:Int) (e + 1) q',(ej 3 (by repeat' (first | exact rfl | exact aA rfl | exact aG (nxt az (by omega)) | exact cS (by rw [hta,hM]) rfl | refine ⟨_,_,rfl,?_,?_⟩)) (by repeat' (first | exact trivial | exact aA rfl | exact aG (nxt az (by omega)) | exact cS (by rw [hta,hM]) rfl | refine ⟨⟨_,rfl,?_⟩,?_⟩))),types.length + 1 - (e + 1),by omega,e + 1,q',_,rfl,by rw [hta,mY],by omega,fun he1=>?_,rfl⟩;rw [hLs,show e=types.length by omega]
 ·have hge:e=types.length + 1:=by have:=hL;simp [eK,hlen] at this;omega
  have hTa:T.take e=T:=List.take_of_length_le (by omega);rw [hTa];have hz:=hz hge;rw [jt,<- hrn] at hz;have ZC:=Rw (.mk rh rp) (mG H8);refine br ?_ ?_<;>intro h9
  ·have h9:rh.ay=9:=sU h9;obtain ⟨i,hi⟩:=Option.ne_none_iff_exists'.1 ((p9 ZC).1 h9);obtain ⟨k,hk⟩:=NP i (by have:=(dX hi).1;omega);have wh:sD ⟨ae,order,types,.mk rh rp⟩ (.mk rh rp) (wo ⟨ae,order,types,.mk rh rp⟩).length=(firstA ⟨ae,order,types,.mk rh rp⟩ k:Int):=by simp [sD,Ty.h,h9,nmF,hi,namedN,hk]
   refine cP aed (Xq rh.name.s i k hi hk) ?_;rw [wh];exact ⟨_,ax,rfl⟩
  ·have h9:¬ rh.ay=9:=sU h9;have wh:sD ⟨ae,order,types,.mk rh rp⟩ (.mk rh rp) (wo ⟨ae,order,types,.mk rh rp⟩).length=z:=by simp [sD,Ty.h,h9,hz]
   rw [wh];exact ⟨_,ax,rfl⟩
def ZN (t:Ty):Prop:=∃ d m,(wrong t d m).1.1=0
def NQ (ay:Int) (p:Ph) (t:Ty):Prop:=(p.bare=true/\ay=8/\sameTy t cp=true/\cY p km=true)∨(p.bare=false/\(eN p).1=0/\ZN t)
structure TyF (h:Hd) (ps:Pts):Prop where
 k1:1<=h.ay
 k9:h.ay<=9
 own:zW h ps=true
 int:h.ay=2->h.lo<=h.hi
 text:h.ay=3->0<=h.most/\h.most<=4096
 enum:h.ay=4->jM h=(0,0)
 one:h.ay=5∨h.ay=6->∃ p t,ps = .cons p t .nil/\p.name.s=aM/\cY p dP=true/\0<=h.most/\h.most<=1024/\ZN t
 many:h.ay=7∨h.ay=8->ps.len<=64/\(h.ay=8->ps.len≠0)/\∀ i p t,ps.toList[i]? = some (p,t)->aK (pNames ps) i p.name=0/\NQ h.ay p t
theorem abS {h:Hd} {ps:Pts} (ho:¬ zR (.mk h ps)=false):zW h ps=true:=by
 rw [Nf];cases hb:sameTy (.mk h ps) (mask (.mk h ps))
 ·exact absurd hb ho
 ·rfl
theorem qd {ay:Int} {all:List Wd}:∀ {ps:Pts} {i:Nat} {d m:Int},(wrongPts ay all i ps d m).1.1=0->(ay=7∨ay=8)->∀ j p t,ps.toList[j]? = some (p,t)->aK all (i + j) p.name=0/\NQ ay p t
 | .nil,i,d,m,_,_,j,p,t,hx=>by simp [Pts.toList] at hx
 | .cons q u r,i,d,m,he,hk,j,p,t,hx=>by
  simp only [wrongPts] at he;by_cases c0:aK all i q.name≠0
  ·rw [zIfP c0] at he;exact absurd he c0
  rw [af c0] at he;have c0:aK all i q.name=0:=sU c0
  have step:∀ d' m',(wrongPts ay all (i + 1) r d' m').1.1=0->NQ ay q u->aK all (i + j) p.name=0/\NQ ay p t:=by
   intro d' m' h hq
   cases j with
   | zero=>grind [Pts.toList]
   | succ j=>
    simp only [Pts.toList,List.getElem?_cons_succ] at hx;have:=qd h hk j p t hx
    grind
  by_cases c1:q.bare=true
  ·rw [zIfP c1] at he;by_cases c2:ay=7∨sameTy u cp=false∨cY q km=false
   ·rw [zIfP c2] at he;simp at he
   rw [af c2] at he;refine step d m he (.inl ⟨c1,?_,?_,?_⟩)
   all_goals grind
  ·rw [af c1] at he;by_cases c2:(eN q).1≠0
   ·rw [zIfP c2] at he;exact absurd he c2
   rw [af c2] at he;by_cases c3:(wrong u (d + 1) m).1.1≠0
   ·rw [zIfP c3] at he;exact absurd he c3
   rw [af c3] at he;exact step d _ he (.inr ⟨by simpa using c1,by simpa using c2,d + 1,m,by simpa using c3⟩)
theorem Lj:∀ {t:Ty},ZN t->TyF t.h t.ps
 | .mk h ps,⟨d,m,he⟩=>by
  simp only [Ty.h,Ty.ps];simp only [wrong] at he;by_cases c0:24 < d
  ·rw [zIfP c0] at he;simp at he
  rw [af c0] at he;by_cases c1:512 < m + 1
  ·rw [zIfP c1] at he;simp at he
  rw [af c1] at he;by_cases c2:h.ay < 1∨9 < h.ay
  ·rw [zIfP c2] at he;simp at he
  rw [af c2] at he;by_cases c3:zR (.mk h ps)=false
  ·rw [zIfP c3] at he;simp at he
  rw [af c3] at he;by_cases c4:(h.ay=2/\h.hi < h.lo)∨(h.ay=3/\(h.most < 0∨4096 < h.most))
  ·rw [zIfP c4] at he;simp at he
  rw [af c4] at he;by_cases c5:h.ay=9/\bM h.name.s=false
  ·rw [zIfP c5] at he;simp at he
  rw [af c5] at he;refine { k1:=by omega,k9:=by omega,own:=abS c3,int:=fun h2=>by omega,text:=fun h3=>by omega,enum:=fun h4=>?_,one:=fun h5=>?_,many:=fun h7=>?_ }
  ·rw [zIfP h4] at he;exact CY h he
  ·rw [af (by omega),zIfP h5] at he
   match ps,he with
   | .nil,he=>simp [wrongOne] at he
   | .cons p t (.cons _ _ _),he=>simp [wrongOne] at he
   | .cons p t .nil,he=>
    simp only [wrongOne] at he;by_cases e0:p.name.s≠aM∨cY p dP=false
    ·rw [zIfP e0] at he;simp at he
    rw [af e0] at he;by_cases e1:h.most < 0∨1024 < h.most
    ·rw [zIfP e1] at he;simp at he
    rw [af e1] at he;refine ⟨p,t,rfl,Classical.byContradiction fun hn=>e0 (.inl hn),?_,by omega,by omega,d + 1,_,he⟩
    grind
  ·rw [af (by omega),af (by omega),zIfP h7] at he;by_cases e0:h.ay=8/\ps.len=0
   ·rw [zIfP e0] at he;simp at he
   rw [af e0] at he;by_cases e1:64 < ps.len
   ·rw [zIfP e1] at he;simp at he
   rw [af e1] at he;refine ⟨by omega,fun h8=>fun hl=>e0 ⟨h8,hl⟩,fun i p t hx=>?_⟩;have:=qd he h7 i p t hx
   rwa [Nat.zero_add] at this
theorem TyF.sub {h:Hd} {ps:Pts} (hF:TyF h ps) {p:Ph} {u:Ty} (hm:(p,u)∈ps.toList) (hb:p.bare=false):ZN u:=by
 obtain ⟨i,hi⟩:=List.mem_iff_getElem?.1 hm
 have hlen:0 < ps.len:=by
  cases ps with
  | nil=>simp [Pts.toList] at hm
  | cons _ _ _=>simp [Pts.len]
 have hk:5<=h.ay/\h.ay<=8:=by
  have h1:=hF.own
  grind [zW]
 by_cases h5:h.ay=5∨h.ay=6
 ·obtain ⟨q,t,rfl,_,_,_,_,hw⟩:=hF.one h5
  grind [Pts.toList]
 ·rcases ((hF.many (by omega)).2.2 i p u hi).2 with h1 | h1
  ·rw [h1.1] at hb;cases hb
  ·exact h1.2.2
mutual
theorem AX:∀ (t:Ty),ZN t->∀ u∈flatT t,ZN u
 | .mk h ps,hw,u,hu=>by
  rw [flatT] at hu;split at hu
  ·cases hu
  ·rcases eU hu with rfl | hu
   ·exact hw
   ·exact IA ps (fun p v hm hb=>(Lj hw).sub hm hb) u hu
theorem IA:∀ (ps:Pts),(∀ p v,(p,v)∈ps.toList->p.bare=false->ZN v)->∀ u∈flatP ps,ZN u
 | .nil,_,u,hu=>by cases hu
 | .cons p v r,hw,u,hu=>by
  rw [flatP] at hu;rcases List.mem_append.1 hu with hu | hu
  ·cases hb:p.bare with
   | true=>rw [hb] at hu;cases hu
   | false=>rw [hb] at hu;exact AX v (hw p v (by simp [Pts.toList]) hb) u hu
  ·exact IA r (fun q w hm=>hw q w (by simp [Pts.toList,hm])) u hu
end
mutual
theorem IB:∀ (t:Ty),∀ u∈flatT t,u.h.ay≠9
 | .mk h ps,u,hu=>by
  rw [flatT] at hu;split at hu
  ·cases hu
  ·rename_i h9;rcases eU hu with rfl | hu
   ·exact h9
   ·exact IC ps u hu
theorem IC:∀ (ps:Pts),∀ u∈flatP ps,u.h.ay≠9
 | .nil,u,hu=>by cases hu
 | .cons p v r,u,hu=>by
  rw [flatP] at hu;rcases List.mem_append.1 hu with hu | hu
  ·split at hu
   ·cases hu
   ·exact IB v u hu
  ·exact IC r u hu
end
mutual
theorem DL:∀ (t:Ty) (j:Nat) (u:Ty),(flatT t)[j]? = some u->j + u.nn<=t.nn
 | .mk h ps,j,u,hu=>by
  rw [flatT] at hu;by_cases h9:h.ay=9
  ·rw [zIfP h9] at hu;simp at hu
  rw [af h9] at hu
  cases j with
  | zero=>grind
  | succ j=>
   simp only [List.getElem?_cons_succ] at hu;have:=wH ps j u hu;rw [Ty.nn,af h9];omega
theorem wH:∀ (ps:Pts) (j:Nat) (u:Ty),(flatP ps)[j]? = some u->j + u.nn<=ps.nn
 | .nil,j,u,hu=>by simp [flatP] at hu
 | .cons p v r,j,u,hu=>by
  rw [flatP] at hu;rw [Pts.nn]
  cases hb:p.bare with
  | true=>
   rw [hb] at hu;have:=wH r j u (sU hu);simp only [if_true];omega
  | false=>
   rw [hb] at hu;simp only [Bool.false_eq_true,if_false] at hu ⊢;by_cases hj:j < (flatT v).length
   ·rw [eT hj] at hu;have:=DL v j u hu;omega
   ·rw [List.getElem?_append_right (by omega)] at hu;have:=wH r _ u hu;have h2:=kU v;omega
end
theorem uz {lev:List Wd->Int} {s:Sch}:∀ {ps:Pts} {k:Nat} {e:Ed},e∈edsP lev s ps k->∃ p u k',(p,u)∈ps.toList/\e=AB lev p (yH s p u k')/\(p.bare=false->k' + u.nn<=k + ps.nn)
 | .nil,k,e,he=>by simp [edsP] at he
 | .cons p u r,k,e,he=>by
  rw [edsP] at he;rcases eU he with rfl | he
  ·grind [Pts.toList,Pts.nn]
  ·obtain ⟨q,v,k',h1,h2,h3⟩:=uz he
   grind [Pts.toList,Pts.nn]
theorem sF {lev:List Wd->Int} {s:Sch}:∀ {ps:Pts} {k:Nat},(edsP lev s ps k).map Ed.name=aF (pNames ps)
 | .nil,k=>rfl
 | .cons p u r,k=>by
  rw [edsP,List.map_cons,sF (ps:=r)];rfl
theorem DM {f:Nat->Nat->Bool} {n:Nat} (hL:lH f n):∀ e,e<=n->∃ b,b < n/\∀ x,x < e->f b x=true
 | 0,_=>⟨0,hL.pos,fun x hx=>by omega⟩
 | e + 1,he=>by
  obtain ⟨b,hb,fO⟩:=DM hL e (by omega);obtain ⟨k,hk⟩:=hL.mt b e hb (by omega);obtain ⟨g1,g2,g3,g4⟩:=sA hk;refine ⟨k,g1,fun x hx=>?_⟩;rcases rP hx with hx | rfl
  ·exact hL.tr k b x g1 hb (by omega) g2 (fO x hx)
  ·exact g3
theorem xM {f:Nat->Nat->Bool} {n:Nat} (hL:lH f n) (l:List Nat) (hl:∀ x∈l,x < n):∃ c,gQ f n l=some c:=by
 have key:∀ e,e<=l.length->∃ c,gQ f n (l.take e)=some c:=by
  intro e
  induction e with
  | zero=>
   intro _;obtain ⟨b,hb,fO⟩:=DM hL n (zLeR _);exact ⟨b,sC hL hb fO⟩
  | succ e ih=>
   intro he;obtain ⟨c,hc⟩:=ih (by omega);obtain ⟨x,hx⟩:∃ x,l[e]? = some x:=⟨_,gE (by omega)⟩;have MC:=hl x (mG hx);obtain ⟨k,hk⟩:=hL.jn c x (v8 hc) MC;rw [List.take_add_one,hx]
   grind [xJ]
 have:=key l.length (zLeR _)
 rwa [List.take_length] at this
theorem DN {L:List ByteArray}:∀ {l:List Wd},(labW L l).1=0->∀ w∈l,∃ i,dC L w.s=some i
 | [],_,w,hw=>by cases hw
 | x :: r,h,w,hw=>by
  rw [labW] at h;split at h
  ·cases h
  ·rename_i h1;rcases eU hw with rfl | hw
   ·exact Option.ne_none_iff_exists'.1 h1
   ·exact DN h w hw
theorem PV {f:Nat->Nat->Bool} {L:List ByteArray} (hL:lH f L.length) {l:List Wd} (h:(labW L l).1=0):∃ c:Nat,FB f L l=c/\c < L.length:=by
 obtain ⟨c,hc⟩:=xM hL (oE L l) (fun x hx=>by
  unfold oE at hx;obtain ⟨w,hw,rfl⟩:=List.mem_map.1 hx;obtain ⟨i,hi⟩:=DN h w hw;rw [hi]
  exact (dX hi).1)
 refine ⟨c,?_,v8 hc⟩;unfold FB;rw [zIfP h,hc];rfl
structure EdOK (L N:Nat) (e:Ed):Prop where
 to0:e.bare=true->e.to = -1
 to1:e.bare=false->∃ k:Nat,e.to=k/\k < N
 lab:∃ k:Nat,e.label=k/\k < L
 seen:∃ k:Nat,e.seen=k/\k < L
 wide:1<=e.wide/\e.wide<=64
 ck:0<=e.ck/\e.ck<=3
 cn:(e.ck=0->e.cn=0)/\(e.ck=1->1<=e.cn)/\(e.ck=2->0<=e.cn/\e.cn<=4096)/\(e.ck=3->e.cn=0)
structure ID (L N:Nat) (n:Nd):Prop where
 k1:1<=n.ay
 k8:n.ay<=8
 lohi:n.ay=2->n.lo<=n.hi
 lo0:n.ay≠2->n.lo=0/\n.hi=0
 agT:n.ay=3->0<=n.most/\n.most<=4096
 agU:n.ay=5->0<=n.most/\n.most<=1024
 agV:n.ay≠3->n.ay≠5->n.most=0
 ag:n.ay=4->n.ag ≠ []/\n.ag.length<=64/\n.ag.Nodup/\∀ s∈n.ag,bM s=true
 abT:n.ay≠4->n.ag=[]
 leaf:n.ay < 5->n.bK=[]
 one:n.ay=5∨n.ay=6->∃ e,n.bK=[e]/\e.bare=false/\e.name=aM
 many:n.ay=7∨n.ay=8->n.bK.length<=64/\(n.ay=8->n.bK ≠ [])/\(n.bK.map Ed.name).Nodup/\∀ e∈n.bK,bM e.name=true
 bare:∀ e∈n.bK,e.bare=true->n.ay=8
 HO:∀ e∈n.bK,EdOK L N e
theorem AY {l:List Wd} (h:∀ j x,l[j]? = some x->aK l j x=0):(aF l).Nodup/\∀ x∈l,bM x.s=true:=by
 have key:∀ e,e<=l.length->(aF (l.take e)).Nodup:=by
  intro e
  induction e with
  | zero=>intro _;simp [aF]
  | succ e ih=>
   intro he;obtain ⟨x,hx⟩:∃ x,l[e]? = some x:=⟨_,gE (by omega)⟩
   grind [oD]
 refine ⟨by have:=key l.length (zLeR _);rwa [List.take_length] at this,fun x hx=>?_⟩;obtain ⟨j,hj⟩:=List.mem_iff_getElem?.1 hx
 grind [aK,bM]
theorem DO {all:List Wd}:∀ {l:List Wd} {i:Nat},(enumL all i l).1=0->∀ j x,l[j]? = some x->aK all (i + j) x=0
 | [],i,_,j,x,hx=>by simp at hx
 | y :: r,i,h,j,x,hx=>by
  rw [enumL] at h;split at h
  ·rename_i h1;exact (h1 h).elim
  ·rename_i h1
   cases j with
   | zero=>grind
   | succ j=>
    simp only [List.getElem?_cons_succ] at hx;have:=DO h j x hx
    grind
theorem FU {h:Hd} (he:jM h=(0,0)):h.ag ≠ []/\h.ag.length<=64/\(aF h.ag).Nodup/\∀ x∈h.ag,bM x.s=true:=by
 unfold jM at he;split at he
 ·cases he
 ·rename_i h1;split at he
  ·cases he
  ·rename_i h2;refine ⟨h1,by omega,?_⟩
   exact AY fun j x hx=>by
    have:=DO (all:=h.ag) (i:=0) (by rw [he]) j x hx
    rwa [Nat.zero_add] at this
theorem NR {X:Lx} {L:List ByteArray}:∀ {ps:Pts},(knP X L ps).1=0->∀ {p:Ph} {u:Ty},(p,u)∈ps.toList->(X.bad p.label).1=0/\(X.bad p.cl).1=0
 | .nil,_,p,u,h=>by cases h
 | .cons q v r,hk,p,u,h=>by
  have hr:=(wi hk).2;rw [knP] at hk;split at hk
  ·rename_i h1;exact (h1 hk).elim
  rename_i h1;split at hk
  ·rename_i h2;exact (h2 hk).elim
  rename_i h2;rcases eU h with h | h
  ·grind
  ·exact NR hr h
theorem qW {p q:Ph} (h:cY p q=true):p.bare=q.bare/\p.wide=q.wide/\p.ck=q.ck/\p.cn=q.cn:=by grind [cY]
theorem T6 {w:Int} (h:0<=w/\w<=64):1<=nD w/\nD w<=64:=by
 unfold nD;split<;>omega
theorem Lk {p:Ph} (h:(bB p).1=0):(0<=p.ck/\p.ck<=3)/\(p.ck=0->p.cn=0)/\(p.ck=1->1<=p.cn)/\(p.ck=2->0<=p.cn/\p.cn<=4096)/\(p.ck=3->p.cn=0):=by grind [bB]
theorem PW {p:Ph} (h:(eN p).1=0):(0<=p.wide/\p.wide<=64)/\(bB p).1=0:=by grind [eN,b9]
theorem T7 {t:Ty} (h:t.h.ay≠9):1<=t.nn:=by
 obtain ⟨h',ps⟩:=t;have h:¬ h'.ay=9:=h;rw [Ty.nn,af h];omega
theorem PX {S:Sch} {k:Nat} {x:Wd × Ty} (hx:S.types[k]? = some x):firstA S k + x.2.nn<=yK (jg S):=by
 have h1:=p8 hx;rw [<- h1]
 have h2:firstA S (k + 1)=yK ((iL S).take (k + 1)):=by
  unfold firstA yK iL;rw [<- List.map_take,List.map_map];rfl
 grind [Ix,iL,yK,jg,FT]
theorem AZ {lev:List Wd->Int} {s:Sch} {n:Nd}:∀ {l:List Ty} {k i:Nat},(ndsA lev s l k)[i]? = some n->∃ t∈l,∃ u∈flatT t,n=Xo lev s u (k + i)/\i + u.nn<=yK l
 | [],k,i,h=>by simp [ndsA] at h
 | t :: r,k,i,h=>by
  rw [ndsA] at h;rw [qc];have hl:=lK lev s t k;by_cases hi:i < t.nn
  ·rw [eT (by omega),yJ,List.getElem?_map,List.getElem?_zipIdx] at h
   cases hu:(flatT t)[i]? with
   | none=>rw [hu] at h;simp at h
   | some u=>
    rw [hu] at h;simp only [Option.map_some,oI] at h;have:=DL t i u hu;exact ⟨t,List.mem_cons_self,u,mG hu,by rw [<- h];simp,by omega⟩
  ·rw [List.getElem?_append_right (by omega),hl] at h;obtain ⟨t',h1,u,h2,h3,h4⟩:=AZ h
   grind
theorem sG (S:Sch):(aV S).length=yK (jg S):=by rw [nJ,nI]
theorem wI {S:Sch} (hF:DK S) {i:Nat} {n:Nd} (h:(aV S)[i]? = some n):ID S.ae.length (aV S).length n:=by
 rw [sG];rw [nJ] at h;obtain ⟨t,ht,u,hu,rfl,lk⟩:=AZ h;rw [Nat.zero_add];have PI:=AX t ⟨_,_,hF.wr t ht⟩ u hu;have hk:=AU t (hF.kn t ht) u hu;have hk9:=IB t u hu;have hT:=Lj PI;obtain ⟨agW,_⟩:=nF hF.lat;have ir:=ee S.ae;have NP:=hF.ends;obtain ⟨uh,us⟩:=u;simp only [Ty.h,Ty.ps] at hT hk9;have hkp:=(p9 hk).2;have dW:=hT.own;unfold zW at dW;simp only [bh,Bool.or_eq_true,decide_eq_true_eq] at dW;obtain ⟨⟨⟨⟨o1,o2⟩,o3⟩,o4⟩,o5⟩:=dW;have k1:=hT.k1;have k9:=hT.k9
 have JQ:∀ l:List Wd,(labW (aF S.ae) l).1=0->∃ k:Nat,jU S l=k/\k < S.ae.length:=by
  intro l hl;have:=PV (f:=fC S.ae.length (dL (aF S.ae) S.order)) (L:=aF S.ae) (by rw [ir];exact agW) hl
  rwa [ir] at this
 have wh:∀ (p:Ph) (v:Ty) (k':Nat),(p,v)∈us.toList->(p.bare=false->k' + v.nn<=i + 1 + us.nn)->(p.bare=true->yH S p v k' = -1)/\(p.bare=false->∃ k:Nat,yH S p v k'=k/\k < yK (jg S)):=by
  intro p v k' hm fO;refine ⟨fun hb=>by simp [yH,hb],fun hb=>?_⟩;have hkv:=FR hkp hm hb;obtain ⟨vh,vs⟩:=v;by_cases h9:vh.ay=9
  ·obtain ⟨j,hj⟩:=Option.ne_none_iff_exists'.1 ((p9 hkv).1 h9);have zc:=(dX hj).1;rw [mI] at zc;obtain ⟨k,hk⟩:=NP j zc;have BO:=yF hk;obtain ⟨x,hx⟩:∃ x,S.types[k]? = some x:=⟨_,gE BO.1⟩;have h1:=PX hx
   grind [T7,firstA,yH,sD,Ty.h,nmF,namedN]
  ·grind [T7,Ty.nn,yH,sD,Ty.h]
 have H3:∀ p v,(p,v)∈us.toList->(0<=p.wide/\p.wide<=64)/\(0<=p.ck/\p.ck<=3)/\((p.ck=0->p.cn=0)/\(p.ck=1->1<=p.cn)/\(p.ck=2->0<=p.cn/\p.cn<=4096)/\(p.ck=3->p.cn=0))/\(p.bare=true->uh.ay=8):=by
  intro p v hm;obtain ⟨j,hj⟩:=List.mem_iff_getElem?.1 hm
  have hlen:us.len≠0:=by
   cases us with
   | nil=>simp [Pts.toList] at hm
   | cons _ _ _=>simp [Pts.len]
  by_cases h5:uh.ay=5∨uh.ay=6
  ·obtain ⟨q,t',rfl,_,jZ,_,_,_⟩:=hT.one h5;simp only [Pts.toList,List.mem_singleton,Prod.mk.injEq] at hm;obtain ⟨rfl,rfl⟩:=hm;obtain ⟨w1,w2,w3,w4⟩:=qW jZ;have z1:dP.wide=0:=rfl;have z2:dP.ck=0:=rfl;have z3:dP.cn=0:=rfl;have z4:dP.bare=false:=rfl
   grind
  ·obtain ⟨_,hP⟩:=(hT.many (by omega)).2.2 j p v hj;rcases hP with ⟨hb,h8,_,jZ⟩ | ⟨hb,hp,_⟩
   ·obtain ⟨w1,w2,w3,w4⟩:=qW jZ;have z1:km.wide=0:=rfl;have z2:km.ck=0:=rfl;have z3:km.cn=0:=rfl;omega
   ·obtain ⟨w1,w2⟩:=PW hp;obtain ⟨w3,w4⟩:=Lk w2
    grind
 have agX:us.len=0->us = .nil:=fun h=>by
  cases us with
  | nil=>rfl
  | cons _ _ _=>simp [Pts.len] at h
 refine {
  k1:=k1
  k8:=by show uh.ay<=8;omega
  lohi:=hT.int
  lo0:=fun h2=>?_
  agT:=hT.text
  agU:=fun h5=>?_
  agV:=fun h3 h5=>?_
  ag:=fun h4=>?_
  abT:=fun h4=>?_
  leaf:=fun h5=>?_
  one:=fun h5=>?_
  many:=fun h7=>?_
  bare:=fun e he hb=>?_
  HO:=fun e he=>?_ }
 ·show uh.lo=0/\uh.hi=0;exact o1.resolve_left h2
 ·obtain ⟨q,t',rfl,_,_,oZ,kO,_⟩:=hT.one (.inl h5);exact ⟨oZ,kO⟩
 ·show uh.most=0;exact o2.resolve_left (fun h=>h.elim h3 h5)
 ·obtain ⟨e1,e2,e3,e4⟩:=FU (hT.enum h4);show aF uh.ag ≠ []/\(aF uh.ag).length<=64/\(aF uh.ag).Nodup/\∀ s∈aF uh.ag,bM s=true
  grind [aF,ee]
 ·show aF uh.ag=[];have:=o4.resolve_right h4;have:uh.ag=[]:=List.eq_nil_of_length_eq_zero this;rw [this];all_goals rfl
 ·show edsP (jU S) S us (i + 1)=[];have hk5:uh.ay < 5:=h5;rw [agX (o3.resolve_right (by omega))];rfl
 ·show ∃ e,edsP (jU S) S us (i + 1)=[e]/\_;obtain ⟨q,t',rfl,hn,jZ,_,_,_⟩:=hT.one h5;refine ⟨AB (jU S) q (yH S q t' (i + 1)),rfl,?_,hn⟩;exact (qW jZ).1
 ·show (edsP (jU S) S us (i + 1)).length<=64/\(_->edsP (jU S) S us (i + 1) ≠ [])/\((edsP (jU S) S us (i + 1)).map Ed.name).Nodup/\∀ e∈edsP (jU S) S us (i + 1),bM e.name=true;obtain ⟨m1,m2,m3⟩:=hT.many h7;have fW:∀ j x,(pNames us)[j]? = some x->aK (pNames us) j x=0:=by grind [iw,Pts.fx,iy]
  obtain ⟨n1,n2⟩:=AY fW;refine ⟨by rw [um];exact m1,fun h8 hn=>m2 h8 ?_,by rw [sF];exact n1,fun e he=>?_⟩
  ·grind [um,jU]
  ·have:e.name∈aF (pNames us):=by rw [<- sF (lev:=jU S) (s:=S) (k:=i + 1)];exact List.mem_map_of_mem he
   grind [aF]
 ·obtain ⟨p,v,k',h1,rfl,_⟩:=uz he;exact (H3 p v h1).2.2.2 hb
 ·obtain ⟨p,v,k',h1,rfl,h3⟩:=uz he;obtain ⟨h4,h5⟩:=wh p v k' h1 h3;obtain ⟨h6,h7,h8,_⟩:=H3 p v h1;obtain ⟨h9,u7⟩:=NR hkp h1;exact { to0:=h4,to1:=h5,lab:=JQ _ h9,seen:=JQ _ u7,wide:=T6 h6,ck:=h7,cn:=h8 }
theorem IE {lev:List Wd->Int} {s:Sch} {n:Nd}:∀ {l:List Ty} {k:Nat},n∈ndsA lev s l k->∃ t∈l,∃ u∈flatT t,∃ k',n=Xo lev s u k'
 | [],_,h=>by cases h
 | t :: r,k,h=>by
  rw [ndsA] at h;rcases List.mem_append.1 h with h | h
  ·grind [yJ]
  ·obtain ⟨t',ht,h⟩:=IE h;exact ⟨t',iS _ ht,h⟩
theorem wJ {S:Sch} {n:Nd} (h:n∈aV S) (hS:S.wt<=1099511627776):n.ag.length<=1099511627776/\n.bK.length<=1099511627776:=by
 rw [nJ] at h;obtain ⟨t,ht,u,hu,k,rfl⟩:=IE h;have h1:=FO hS t ht;have h2:=AV t u hu;obtain ⟨uh,us⟩:=u;have h3:=bW uh.ag;have h4:=us.gP
 grind [Ty.wt,Hd.wt,Xo,Ty.h,Ty.ps,ee,um]
abbrev zNd:List DV:=[.v (.int .i64 0),.v (.int .i64 0),.v (.int .i64 0),.v (.int .i64 0),.v (.int .i64 0),.v (.slice none 0 0),.v (.slice none 0 0)]
structure nK (S:Sch) (ND:List Nd) (PC:List DV):Prop where
 fine:DK S
 wt:S.wt<=1099511627776
 Dx:ND=aV S
 ok:∀ n∈ND,ID S.ae.length ND.length n
 nl:ND.length<=1099511627776
 len:aR prog 22 [.pt PC 0] (.v (.int .i64 ND.length))
 root:aR prog 23 [.pt PC 0] (.v (.int .i64 (kF S)))
 aj:∀ (i:Nat) n,ND[i]? = some n->aR prog 38 [.pt PC 0,.v (.int .i64 i)] (.bo [.agg (GG n),.v (.bool true)])
 agY:∀ i:Int,(i < 0∨ND.length<=i)->aR prog 38 [.pt PC 0,.v (.int .i64 i)] (.bo [.agg zNd,.v (.bool false)])
 lat:∃ aN js,(eZ S aN js).OK/\aR prog 45 [.pt PC 0] (eZ S aN js).pd
theorem T8 {S:Sch} {d:DV} (hS:S.wt<=1099511627776) (h0:(jf S).1=0) (hd:TG S d):∃ PC,d = .pt PC 0/\nK S (aV S) PC:=by
 obtain ⟨aN,mJ,js,hX,hT,nZ,rfl⟩:=hd;have hF:=AW h0;have cK:=fun n (h:n∈aV S)=>wJ h hS
 refine ⟨_,rfl,{
  fine:=hF
  wt:=hS
  Dx:=rfl
  ok:=fun n hn=>?_
  nl:=by rw [sG];exact Nat.le_trans (Lh S) hS
  len:=wu _ _ _ _ _ _
  root:=K2 _ _ _ _ _ _
  aj:=fun i n h=>K3 _ _ _ _ _ _ i n h (cK n (mG h)).1 (cK n (mG h)).2
  agY:=fun i h=>K4 _ _ _ _ _ _ i h
  lat:=⟨aN,js,hX,PJ _ _ _ _ _ _⟩ }⟩
 obtain ⟨i,hi⟩:=List.mem_iff_getElem?.1 hn;exact wI hF hi
def T9 (S:Sch) (r:DV):Prop:=((jf S).1≠0/\r = .bo [.v (.pointer none),(jf S).d])∨((jf S).1=0/\∃ PC,nK S (aV S) PC/\r = .bo [.pt PC 0,Ft.d (0,0)])
theorem PY {S:Sch} (hS:S.wt<=1099511627776) {r:DV} {os:List (List DV)} {tk:List TkE} (h:KZ S r os tk):T9 S r:=by
 unfold KZ at h;by_cases h0:(jf S).1=0
 ·rw [af (by rw [h0];simp)] at h;obtain ⟨d,hd,rfl⟩:=h;obtain ⟨PC,rfl,hP⟩:=T8 hS h0 hd;exact .inr ⟨h0,PC,hP,rfl⟩
 ·rw [zIfP h0] at h;exact .inl ⟨h0,h⟩
inductive Val where
 | mk (k n:Int) (s:ByteArray) (ks:List Val)
def Val.k:Val->Int | .mk k _ _ _=>k
def Val.n:Val->Int | .mk _ n _ _=>n
def Val.s:Val->ByteArray | .mk _ _ s _=>s
def Val.ks:Val->List Val | .mk _ _ _ ks=>ks
mutual
def Val.wt:Val->Nat
 | .mk _ _ s ks=>64 + s.size + agZ ks
def agZ:List Val->Nat
 | []=>0
 | v :: r=>v.wt + agZ r
end
def to0 (n:Nd):Int:=match n.bK[0]? with | some e=>e.to | none=>0
structure J3 where
 k:Int
 n:Int
 s:ByteArray
def Ua (f:Nat->Nat->Bool) (n:Nat) (a b:Int):Bool:=decide (0<=a) && decide (a < n) && decide (0<=b) && decide (b < n) && f a.toNat b.toNat
def jnF (f:Nat->Nat->Bool) (n a b:Nat):Nat:=(gk f n a b).getD 0
def abU (f:Nat->Nat->Bool) (n:Nat):Nat:=(gQ f n []).getD 0
theorem Ub {f:Nat->Nat->Bool} {n a b:Nat} (ha:a < n) (hb:b < n):Ua f n a b=f a b:=by simp [Ua,ha,hb]
theorem Uc {f:Nat->Nat->Bool} {n a b:Nat} (h:lH f n) (ha:a < n) (hb:b < n):gk f n a b=some (jnF f n a b):=by
 obtain ⟨k,hk⟩:=h.jn a b ha hb;simp [jnF,hk]
theorem PZ {f:Nat->Nat->Bool} {n:Nat} (h:lH f n):gQ f n []=some (abU f n):=by
 obtain ⟨c,hc⟩:=xM h [] (fun _ h=>by cases h);simp [abU,hc]
section
variable (ag:List ByteArray) (tc:List DV) (rows:List Nat) (js:List Int)
theorem P4 (hr:eY rows) (hl:rows.length=ag.length) (a b:Int) :
  aR prog 186 [.pt (jS ag tc rows js) 0,.v (.int .i64 a),.v (.int .i64 b)] (.v (.bool (hasB rows a b))):=by
 have h1:=Dm ag tc rows js;have h2:=nv rows hr a b;have hB:hasB rows a b=(decide (0<=a) && decide (a < ag.length) && decide (0<=b) && decide (b < ag.length) && bp rows a.toNat b.toNat):=by rw [<- hl];all_goals rfl
 generalize hasB rows a b=h at h2 hB ⊢;refine eG 24 [.tmp 6] func186 rfl ntmps186 rfl fun _ _ _ _=>?_;refine cP CM (h1 a) ?_;refine br ?_ ?_<;>intro g
 ·refine cP CM (h1 b) ?_;refine br ?_ ?_<;>intro g2
  ·refine cP Hq h2 ?_;exact (rfl:_=_)
  ·refine (dq ?_:);rw [hB];simp only [Bool.and_assoc] at g g2 ⊢;cases hx:decide (0<=b)<;>cases hy:decide (b < ag.length)<;>simp_all [pickB]
 ·refine (dq ?_:);rw [hB];cases hx:decide (0<=a)<;>cases hy:decide (a < ag.length)<;>simp_all [pickB]
end
structure ag0 (n:Nat) (f:Nat->Nat->Bool) (ag:List ByteArray) (LC:List DV):Prop where
 ok:lH f n
 n32:n<=32
 nl:ag.length=n
 len:aR prog 110 [.pt LC 0] (.v (.int .i64 n))
 leq:∀ a b:Int,aR prog 186 [.pt LC 0,.v (.int .i64 a),.v (.int .i64 b)] (.v (.bool (Ua f n a b)))
 join:∀ a b:Nat,a < n->b < n->aR prog 217 [.pt LC 0,.v (.int .i64 a),.v (.int .i64 b)] (.v (.int .i64 (jnF f n a b:Nat)))
 bot:aR prog 46 [.pt LC 0] (.v (.int .i64 (abU f n:Nat)))
abbrev oH (S:Sch):Nat->Nat->Bool:=fC S.ae.length (dL (aF S.ae) S.order)
theorem nK.latR {S:Sch} {ND:List Nd} {PC:List DV} (hP:nK S ND PC):∃ LC,aR prog 45 [.pt PC 0] (.pt LC 0)/\ag0 S.ae.length (oH S) (aF S.ae) LC:=by
 obtain ⟨aN,js,hX,hl⟩:=hP.lat;have ir:=ee S.ae;have JO:=(hP.fine).lat;obtain ⟨hL,JR⟩:=nF JO;have hpr:∀ p∈dL (aF S.ae) S.order,p.1 < S.ae.length/\p.2 < S.ae.length:=by have:=qT (sE JO).2.2.1;rwa [ee] at this
 have gW:(eZ S aN js).rows.length=S.ae.length:=by
  show (closeR (gA S.ae.length (dL (aF S.ae) S.order)) S.ae.length).length=_;rw [gB,lD]
 have hr:eY (eZ S aN js).rows:=ny (Fq (by omega) _ hpr) _ (by omega)
 refine ⟨_,hl,{
  ok:=hL,n32:=JR,nl:=ir
  len:=?_
  leq:=fun a b=>?_
  join:=fun a b ha hb=>?_
  bot:=?_
  }⟩
 ·have:=vZ (eZ S aN js).ag (dB (eZ S aN js).ag (eZ S aN js).aN) (eZ S aN js).rows (eZ S aN js).js
  rwa [show (eZ S aN js).ag.length=S.ae.length from ir] at this
 ·have:=P4 (eZ S aN js).ag (dB (eZ S aN js).ag (eZ S aN js).aN) (eZ S aN js).rows (eZ S aN js).js hr (by rw [gW];exact ir.symm) a b
  have he:hasB (eZ S aN js).rows a b=Ua (oH S) S.ae.length a b:=by
   unfold hasB Ua;rw [gW];all_goals rfl
  rwa [he] at this
 ·have hz:=(hX.hj a b (by rw [show (eZ S aN js).ag.length=S.ae.length from ir];exact ha) (by rw [show (eZ S aN js).ag.length=S.ae.length from ir];exact hb)).1;rw [show (eZ S aN js).ag.length=S.ae.length from ir,show (eZ S aN js).f=oH S from rfl,Uc hL ha hb] at hz;exact Au (eZ S aN js).ag (dB (eZ S aN js).ag (eZ S aN js).aN) (eZ S aN js).rows (eZ S aN js).js a b _ (by rw [show (eZ S aN js).ag.length=S.ae.length from ir];exact ha) (by rw [show (eZ S aN js).ag.length=S.ae.length from ir];exact hb) hX.hn hz
 ·have:=uj (eZ S aN js).ag (dB (eZ S aN js).ag (eZ S aN js).aN) (eZ S aN js).rows (eZ S aN js).js hX.hL hX.hn hX.hj
  rwa [show (eZ S aN js).ag.length=S.ae.length from ir,show (eZ S aN js).f=oH S from rfl,PZ hL] at this
theorem DP {L:Nat} {ND:List Nd} {d:Nd} (hN:ID L ND.length d) {e:Ed} (he:e∈d.bK):(e.bare=false->e.to=(e.to.toNat:Nat)/\e.to.toNat < ND.length)/\(e.label=(e.label.toNat:Nat)/\e.label.toNat < L)/\(e.seen=(e.seen.toNat:Nat)/\e.seen.toNat < L):=by
 have hE:=hN.HO e he;refine ⟨fun hb=>?_,?_,?_⟩
 ·obtain ⟨k,h1,h2⟩:=hE.to1 hb;rw [h1];exact ⟨by simp,by simpa using h2⟩
 ·obtain ⟨k,h1,h2⟩:=hE.lab;rw [h1];exact ⟨by simp,by simpa using h2⟩
 ·obtain ⟨k,h1,h2⟩:=hE.seen;rw [h1];exact ⟨by simp,by simpa using h2⟩
section
variable (ND:List Nd) (f:Nat->Nat->Bool) (n obs dep:Nat)
end
theorem uA (s:ByteArray) (n:Nat) (h:s.size<=1099511627776):tx (s.extract n (s.size:Int).toNat)=(tx s).drop n:=by
 simp [tx,dV];exact List.take_of_length_le (by rw [List.length_drop];have:=bd s;unfold tx at this;omega)
theorem qX (s:ByteArray):s=⟨#[]⟩↔tx s=[]:=⟨fun h=>by rw [h];rfl,fun h=>by rw [<- afK s,h]⟩
theorem Ud (s:ByteArray) (hs:s.size<=1099511627776) (i:Nat) (hi:i < s.size) (c:UInt8) (hc:s.data.toList[i]? = some c) (hd:fq c=true) (hz:c.toNat=48->digN (s.data.toList.drop i)=1) (hv:cd ((s.data.toList.drop i).take (digN (s.data.toList.drop i)))<=9223372036854775807) :
  aR prog 291 [.v (.string s),.v (.int .i64 i)] (.bo [.v (.int .i64 (cd ((s.data.toList.drop i).take (digN (s.data.toList.drop i))):Nat)),.v (.int .i64 ((i + digN (s.data.toList.drop i):Nat):Int)),Ft.d (0,0)]):=by
 obtain ⟨c',eH,hb⟩:=bl hi
 have sY:c'=c:=by
  have:=congrArg List.head? eH;rw [List.head?_drop,List.head?_cons,hc] at this;exact (Option.some.inj this).symm
 subst sY;have hbi:aq s (i:Int).toNat=c'.toNat:=hb
 have h1:1<=digN (s.data.toList.drop i):=by
  rw [eH,digN,zIfP hd];omega
 have h2:=qP (s.data.toList.drop i);rw [List.length_drop] at h2;have qJ:s.data.toList.length=s.size:=by simp
 unfold fq at hd;simp only [bh,decide_eq_true_eq] at hd;have hx:(s.extract i (s.size:Int).toNat).data.toList=s.data.toList.drop i:=uA s i hs
 have bV:=vN (s.extract i (s.size:Int).toNat) (by
  have:=congrArg List.length hx;rw [List.length_drop] at this;have h3:(s.extract i (s.size:Int).toNat).data.toList.length=(s.extract i (s.size:Int).toNat).size:=by simp
  omega)
 rw [hx] at bV;have fW:=pQ (s.data.toList.drop i);generalize hK:digN (s.data.toList.drop i)=k at *
 have hy:(s.extract i (i + k)).data.toList=(s.data.toList.drop i).take k:=by
  have h3:i + k<=s.size:=by omega
  simp
  all_goals omega
 have hval:=vO (s.extract i (i + k)) (by
  have:=congrArg List.length hy;rw [zLenT,List.length_drop] at this;have h3:(s.extract i (i + k)).data.toList.length=(s.extract i (i + k)).size:=by rw [Array.length_toList,ByteArray.size_data]
  omega) false (by rw [hy];exact fW)
 rw [hy] at hval;generalize (s.data.toList.drop i).take k=L at hval hv ⊢
 have hR:gn L false=(((cd L:Nat):Int),true):=by
  unfold gn;rw [af (by decide),zIfP hv]
 rw [hR] at hval;generalize cd L=V at hval hv ⊢;clear hR fW hx hy
 have hw:IntKind.i64.wrap ((i:Int) + k)=((i + k:Nat):Int):=by
  rw [wrap64 (by omega) (by omega)];omega
 rw [<- hw];refine eG 88 [.tmp 4,.tmp 5,.cell 6 26] func291 rfl ntmps291 rfl fun _ _ _ _=>?_;refine br (fun g=>?_) (fun _=>?_)
 ·exfalso;simp [ak] at g;omega
 refine br (fun _=>?_) (fun g=>absurd (show (i:Int) < s.size by omega) (sU g));refine ⟨⟨by omega,by omega⟩,?_⟩;have P5:¬ ((aq s (i:Int).toNat:Nat):Int)=45:=by omega
 refine br (fun g=>?_) (fun _=>?_)
 ·exfalso;exact P5 (by simpa [pickB] using g)
 refine ⟨⟨by omega,by omega,by omega⟩,?_⟩;refine cP Sc bV ?_;refine br (fun g=>?_) (fun _=>?_)
 ·exfalso;have g:((k:Nat):Int)=0/\(i:Int)=s.size:=by simpa [pickB_and] using g
  omega
 refine br (fun g=>?_) (fun _=>?_)
 ·exfalso;have g:((k:Nat):Int)=0:=of_decide_eq_true g;omega
 refine ⟨⟨by omega,by omega⟩,?_⟩;refine br (fun g=>?_) (fun _=>?_)
 ·exfalso;simp [pickB_and,ak] at g;have DQ:aq s i=48:=by omega
  have:=hz (by omega);omega
 have hval:aR prog 335 [.v (.string (s.extract (i:Int).toNat (IntKind.i64.wrap ((i:Int) + k)).toNat)),.v (.bool (decide (((aq s (i:Int).toNat:Nat):Int)=45)))] (.bo [.v (.int .i64 V),.v (.bool true)]):=by
  rw [hw,decide_eq_false P5];exact hval
 refine ⟨⟨by omega,by omega,by omega⟩,?_⟩;refine cP Sd hval ?_;exact ⟨_,ax,rfl⟩
end Go.Proofs.YtfdedoiiahbnnaaGreat
