/- Part 6 of the proof: Values as they are written, with their records the other way round: plain; Values as they are written, at another place: plain; The law's turned, where nothing changes places; Steps of a drawn region: elements of rows whose cells nobody else knows, read and written whole; The law's turned, where a record's keys change places; Rules for the evaluator: a region that draws its order; what each of its reads asks is told read by read; The law's turned, where a record's keys change places: the walk; The law's turned for every value; two equal values are the same; The law of order: the call returns true. No condition. -/
import Derived.Test.YtfdedoiiahbnnaaGreatNc4
import Derived.Test.YtfdedoiiahbnnaaGreatNc5
set_option linter.all false
set_option maxRecDepth 100000
namespace Go.Proofs.YtfdedoiiahbnnaaGreat
open Go Go.RowKit Dv Go.Proofs.Tryz
mutual
def rtnR:Rw->Rw
 | .mk k a n s keys ks=>if k=5/\keys.length=ks.length then .mk k a n s keys.reverse (rtnRs ks).reverse else .mk k a n s keys (rtnRs ks)
def rtnRs:List Rw->List Rw
 | []=>[]
 | r :: l=>rtnR r :: rtnRs l
end
theorem eB:∀ l:List Rw,rtnRs l=l.map rtnR
 | []=>rfl
 | r :: l=>by rw [rtnRs,eB l];all_goals rfl
theorem kD (l:List Rw):(rtnRs l).length=l.length:=by rw [eB,List.length_map]
section
variable {ND:List Nd} {d:Nd}
structure C7 (ND:List Nd) (d:Nd) (l:List Rw) (ws:List Wd) (acc:List (Option Val)):Prop where
 key:∀ (j:Nat) r w,l[j]? = some r->ws[j]? = some w->∃ c,mF d w.s=some c/\(acc.getD c none).isSome=false/\(ckV ND r (oC d c)).2.1=0
 inj:∀ (j j':Nat) w w' c,j < l.length->j' < l.length->ws[j]? = some w->ws[j']? = some w' -> mF d w.s=some c->mF d w'.s=some c->j=j'
def LX (ND:List Nd) (d:Nd) (l:List Rw) (ws:List Wd) (acc out:List (Option Val)):Prop:=
 out.length=acc.length/\(∀ (j:Nat) r w c,l[j]? = some r->ws[j]? = some w->mF d w.s=some c->c < acc.length->out[c]? = some (some (ckV ND r (oC d c)).1)) /\
  ∀ c:Nat,(∀ (j:Nat) r w,l[j]? = some r->ws[j]? = some w->mF d w.s≠some c)->out[c]? = acc[c]?
theorem j6:∀ {l:List Rw} {ws:List Wd} {acc:List (Option Val)},acc.length=d.aR.length->(ckK ND d l ws acc).2.1=0->(ckK ND d l ws acc).2.2=0/\C7 ND d l ws acc/\LX ND d l ws acc (ckK ND d l ws acc).1
 | [],ws,acc,_,h=>by
  have e:ckK ND d [] ws acc=(acc,0,0):=by cases ws<;>simp [ckK]
  rw [e];exact ⟨rfl,⟨fun j r w h=>by simp at h,fun j j' w w' c h=>by simp at h⟩,rfl,fun j r w c h=>by simp at h,fun c _=>rfl⟩
 | r :: l,[],acc,_,h=>by
  have e:ckK ND d (r :: l) [] acc=(acc,0,0):=by simp [ckK]
  rw [e];exact ⟨rfl,⟨fun j r w _ h=>by simp at h,fun j j' w w' c _ _ h=>by simp at h⟩,rfl,fun j r w c _ h=>by simp at h,fun c _=>rfl⟩
 | r :: l,w :: ws,acc,rm,h=>by
  rw [ckK] at h ⊢
  cases hc:mF d w.s with
  | none=>rw [hc] at h;simp at h
  | some c=>
   rw [hc] at h;simp only at h ⊢;by_cases h1:(acc.getD c none).isSome=true
   ·rw [aj h1] at h;simp at h
   rw [ah h1] at h ⊢;by_cases h2:(ckV ND r (oC d c)).2.1≠0
   ·rw [aj h2] at h;exact (h2 h).elim
   rw [ah h2] at h ⊢;have cC:c < acc.length:=by rw [rm];exact nE hc
   obtain ⟨g0,g1,g2,g3,g4⟩:=j6 (by rw [List.length_set];exact rm) h;rw [List.length_set] at g2
   have aY:∀ (j:Nat) r' w',l[j]? = some r' -> ws[j]? = some w' -> mF d w'.s≠some c:=fun j r' w' hr hw hec=>by
    obtain ⟨c',k1,k2,k3⟩:=g1.key j r' w' hr hw;rw [hec] at k1;cases k1;simp [jl,gm cC] at k2
   refine ⟨g0,⟨fun j r' w' hr hw=>?_,fun j j' w1 w2 c1 hj eQ hw1 qX J3 EM=>?_⟩,g2,fun j r' w' c1 hr hw he av=>?_,fun c1 gQ=>?_⟩
   ·cases j with
    | zero=>
     simp only [List.getElem?_cons_zero,oI] at hr hw;subst hr hw;exact ⟨c,hc,by simpa using h1,by simpa using h2⟩
    | succ j=>
     simp only [List.getElem?_cons_succ] at hr hw;obtain ⟨c',k1,k2,k3⟩:=g1.key j r' w' hr hw;refine ⟨c',k1,?_,k3⟩;by_cases nN:c'=c
     ·subst nN;simpa using h1
     ·rw [jl] at k2 ⊢
      rwa [List.getElem?_set_ne (fun h=>nN h.symm)] at k2
   ·have key:∀ (j:Nat) w2,j < l.length->ws[j]? = some w2->mF d w2.s≠some c:=fun j w2 hj hw=>by
     obtain ⟨r',ei⟩:∃ r',l[j]? = some r':=⟨_,gE hj⟩;exact aY j r' w2 ei hw
    cases j with
    | zero=>
     simp only [List.getElem?_cons_zero,oI] at hw1;subst hw1;rw [hc] at J3;cases J3
     cases j' with
     | zero=>rfl
     | succ j'=>exact (key j' w2 (sU eQ) (sU qX) EM).elim
    | succ j=>
     cases j' with
     | zero=>
      simp only [List.getElem?_cons_zero,oI] at qX;subst qX;rw [hc] at EM;cases EM;exact (key j w1 (sU hj) (sU hw1) J3).elim
     | succ j'=>rw [g1.inj j j' w1 w2 c1 (sU hj) (sU eQ) (sU hw1) (sU qX) J3 EM]
   ·cases j with
    | zero=>
     simp only [List.getElem?_cons_zero,oI] at hr hw;subst hr hw;rw [hc] at he;cases he;rw [g4 c aY,gm cC]
    | succ j=>
     simp only [List.getElem?_cons_succ] at hr hw;exact g3 j r' w' c1 hr hw he (by rw [List.length_set];exact av)
   ·have h0:=gQ 0 r w rfl rfl;rw [hc] at h0;rw [g4 c1 fun j r' w' hr hw=>gQ (j + 1) r' w' (sU hr) (sU hw),List.getElem?_set_ne (fun h=>h0 (by rw [h]))]
theorem zX:∀ {l:List Rw} {ws:List Wd} {acc:List (Option Val)},acc.length=d.aR.length->C7 ND d l ws acc->(ckK ND d l ws acc).2.1=0
 | [],ws,acc,_,_=>by cases ws<;>simp [ckK]
 | r :: l,[],acc,_,_=>by simp [ckK]
 | r :: l,w :: ws,acc,rm,h=>by
  obtain ⟨c,k1,k2,k3⟩:=h.key 0 r w rfl rfl;rw [ckK,k1];simp only;rw [ah (by rw [k2];simp),ah (by simp [k3])];refine zX (by rw [List.length_set];exact rm) ⟨fun j r' w' hr hw=>?_,fun j j' w1 w2 c1 hj eQ hw1 qX J3 EM=>?_⟩
  ·obtain ⟨c',q1,q2,q3⟩:=h.key (j + 1) r' w' (sU hr) (sU hw)
   have nN:c' ≠ c:=fun nN=>by
    subst nN;have:=h.inj 0 (j + 1) w w' c' (by simp) (by have:=(gS hr).1;simp;omega) rfl (sU hw) k1 q1;omega
   refine ⟨c',q1,?_,q3⟩;rw [jl] at q2 ⊢
   rwa [List.getElem?_set_ne (fun h=>nN h.symm)]
  ·have:=h.inj (j + 1) (j' + 1) w1 w2 c1 (sU hj) (sU eQ) (sU hw1) (sU qX) J3 EM;omega
theorem xR {l:List Rw} {ws:List Wd} {acc:List (Option Val)} (hl:ws.length=l.length) (h:C7 ND d l ws acc):C7 ND d l.reverse ws.reverse acc:=by
 refine ⟨fun j r w hr hw=>?_,fun j j' w1 w2 c hj eQ hw1 qX J3 EM=>?_⟩
 ·have hj:j < l.length:=by simpa using (gS hr).1
  rw [List.getElem?_reverse hj] at hr;rw [List.getElem?_reverse (by omega),hl] at hw;exact h.key _ r w hr hw
 ·rw [List.length_reverse] at hj eQ;rw [List.getElem?_reverse (by omega),hl] at hw1 qX;have:=h.inj _ _ w1 w2 c (by omega) (by omega) hw1 qX J3 EM;omega
theorem Gw {l l':List Rw} {ws:List Wd} {acc out Pp:List (Option Val)} (hl:ws.length=l.length) (R9:l'.length=l.length) (hv:∀ (j:Nat) r r' w c,l[j]? = some r->l'[j]? = some r' -> ws[j]? = some w->mF d w.s=some c->(ckV ND r' (oC d c)).1=(ckV ND r (oC d c)).1)
  (h:LX ND d l ws acc out) (h':LX ND d l'.reverse ws.reverse acc Pp) (rm:acc.length=d.aR.length):Pp=out:=by
 apply List.ext_getElem?;intro c;obtain ⟨a1,a2,a3⟩:=h;obtain ⟨b1,b2,b3⟩:=h';by_cases hc:∃ (j:Nat) (r:Rw) (w:Wd),l[j]? = some r/\ws[j]? = some w/\mF d w.s=some c
 ·obtain ⟨j,r,w,hr,hw,he⟩:=hc;have hj:=(gS hr).1;have cC:c < acc.length:=by rw [rm];exact nE he
  obtain ⟨r',ei⟩:∃ r',l'[j]? = some r':=⟨_,gE (by omega)⟩;rw [a2 j r w c hr hw he cC]
  have e1:l'.reverse[l.length - 1 - j]? = some r':=by
   rw [List.getElem?_reverse (by omega),R9,show l.length - 1 - (l.length - 1 - j)=j by omega];exact ei
  have e2:ws.reverse[l.length - 1 - j]? = some w:=by
   rw [List.getElem?_reverse (by omega),hl,show l.length - 1 - (l.length - 1 - j)=j by omega];exact hw
  rw [b2 _ r' w c e1 e2 he cC,hv j r r' w c hr ei hw he]
 ·rw [a3 c fun j r w hr hw he=>hc ⟨j,r,w,hr,hw,he⟩,b3 c fun j r w hr hw he=>?_];have hj:j < l'.length:=by simpa using (gS hr).1
  rw [List.getElem?_reverse (by omega),hl] at hw;obtain ⟨r0,hr0⟩:∃ r0,l[l.length - 1 - j]? = some r0:=⟨_,gE (by omega)⟩;exact hc ⟨_,r0,w,hr0,hw,he⟩
end
def Bi (a b:zB):Prop:=(a.2.1=0↔b.2.1=0)/\a.1=b.1
theorem xS {ND:List Nd}:∀ {l:List Rw} {i:Int} {acc:List Val},(ckL ND l i acc).2.1=0↔∀ r∈l,(ckV ND r i).2.1=0:=fun {l i acc}=>⟨fun h=>(qI h).1,fun h=>by rw [zC h]⟩
theorem qT {ND:List Nd} {k n:Int} {l:List Rw} {i:Int} (h:∀ r∈l,Bi (ckV ND (rtnR r) i) (ckV ND r i)):Bi (eM k n (ckL ND (rtnRs l) i [])) (eM k n (ckL ND l i [])):=by
 have hb:(ckL ND (rtnRs l) i []).2.1=0↔(ckL ND l i []).2.1=0:=by
  rw [xS,xS,eB];constructor
  ·intro g r hr;exact (h r hr).1.1 (g _ (List.mem_map.2 ⟨r,hr,rfl⟩))
  ·intro g r hr;obtain ⟨q,hq,rfl⟩:=List.mem_map.1 hr;exact (h q hq).1.2 (g q hq)
 by_cases h0:(ckL ND l i []).2.1=0
 ·have h1:=hb.2 h0;have e0:=(qI h0).2;have e1:=(qI h1).2;unfold eM;rw [e0,e1];simp only [ne_eq,not_true_eq_false,if_false];refine ⟨Iff.rfl,?_⟩;rw [eB,List.map_map];simp only [jz,List.nil_append];congr 1;exact List.map_congr_left fun r hr=>(h r hr).2
 ·have h1:=fun g=>h0 (hb.1 g);unfold eM;rw [aj h0,aj h1];exact ⟨⟨fun g=>(h1 g).elim,fun g=>(h0 g).elim⟩,rfl⟩
theorem tA {L:Nat} {ND:List Nd} (fM:∀ n∈ND,zw L ND.length n):∀ (m:Nat) (r:Rw),jj r<=m->∀ i,Bi (ckV ND (rtnR r) i) (ckV ND r i)
 | 0,r,h=>by have:=mv r;omega
 | m + 1,.mk k a n s keys ks,h=>fun i=>by
  rw [jj] at h;have ih:∀ r∈ks,∀ i,Bi (ckV ND (rtnR r) i) (ckV ND r i):=fun r hr=>tA fM m r (by have:=iz hr;omega);have Qj:=kD ks;rw [rtnR];by_cases hk:k=5/\keys.length=ks.length
  ·rw [aj hk,ckV,ckV]
   cases hd:gT ND i with
   | none=>exact ⟨Iff.rfl,rfl⟩
   | some d=>
    simp only [List.length_reverse,Qj];obtain ⟨rfl,mV⟩:=hk;by_cases h5:d.ai < 5
    ·rw [aj h5,aj h5];exact ⟨Iff.rfl,rfl⟩
    rw [ah h5,ah h5];by_cases F1:d.ai=5
    ·rw [aj F1,aj F1,aj (by decide),aj (by decide)];exact ⟨Iff.rfl,rfl⟩
    rw [ah F1,ah F1];by_cases h6:d.ai=6
    ·rw [aj h6,aj h6,ah (show ¬((5:Int)=1/\s=qH) from fun h=>absurd h.1 (by decide)),ah (show ¬((5:Int)=1/\s=qH) from fun h=>absurd h.1 (by decide)),aj (Or.inl (by decide)),aj (Or.inl (by decide))];exact ⟨Iff.rfl,rfl⟩
    rw [ah h6,ah h6];by_cases h7:d.ai=7
    ·rw [aj h7,aj h7,ah (by simp [mV]),ah (by simp [mV])];have rm:(List.replicate d.aR.length (none:Option Val)).length=d.aR.length:=List.length_replicate
     have hg:∀ (j:Nat) r r',ks[j]? = some r->(rtnRs ks)[j]? = some r' -> r'=rtnR r:=fun j r r' hr ei=>by
      rw [eB,List.getElem?_map,hr] at ei;exact (Option.some.inj ei).symm
     generalize List.replicate d.aR.length (none:Option Val)=acc at rm
     have LP:C7 ND d (rtnRs ks) keys acc↔C7 ND d ks keys acc:=by
      constructor
      ·intro g;refine ⟨fun j r w hr hw=>?_,fun j j' w w' c hj eQ=>g.inj j j' w w' c (by omega) (by omega)⟩;obtain ⟨c,q1,q2,q3⟩:=g.key j (rtnR r) w (by rw [eB,List.getElem?_map,hr];rfl) hw;exact ⟨c,q1,q2,(ih r (mG hr) _).1.1 q3⟩
      ·intro g;refine ⟨fun j r' w ei hw=>?_,fun j j' w w' c hj eQ=>g.inj j j' w w' c (by omega) (by omega)⟩;obtain ⟨r,hr⟩:∃ r,ks[j]? = some r:=⟨_,gE (by have:=(gS ei).1;omega)⟩;obtain rfl:=hg j r r' hr ei;obtain ⟨c,q1,q2,q3⟩:=g.key j r w hr hw;exact ⟨c,q1,q2,(ih r (mG hr) _).1.2 q3⟩
     have hb:(ckK ND d (rtnRs ks).reverse keys.reverse acc).2.1=0↔(ckK ND d ks keys acc).2.1=0:=by
      constructor
      ·intro g;have q:=(j6 rm g).2.1;have q:=xR (by simp [Qj,mV]) q;rw [List.reverse_reverse,List.reverse_reverse] at q;exact zX rm (LP.1 q)
      ·intro g;exact zX rm (xR (by omega) (LP.2 (j6 rm g).2.1))
     by_cases h0:(ckK ND d ks keys acc).2.1=0
     ·have h1:=hb.2 h0;obtain ⟨_,_,t0⟩:=j6 rm h0;obtain ⟨_,_,t1⟩:=j6 rm h1
      have he:=Gw (l':=rtnRs ks) mV Qj (fun j r r' w c hr ei hw he=>by
       rw [hg j r r' hr ei]
       exact (ih r (mG hr) _).2) t0 t1 rm
      unfold fC;rw [ah (show ¬((ckK ND d (rtnRs ks).reverse keys.reverse acc).2.1≠0) from fun g=>g h1),ah (show ¬((ckK ND d ks keys acc).2.1≠0) from fun g=>g h0),he];split
      ·exact ⟨Iff.rfl,rfl⟩
      ·exact ⟨Iff.rfl,rfl⟩
     ·have h1:=fun g=>h0 (hb.1 g);unfold fC;rw [aj h0,aj h1];exact ⟨⟨fun g=>(h1 g).elim,fun g=>(h0 g).elim⟩,rfl⟩
    rw [ah h7,ah h7,aj (by simp),aj (by simp)];exact ⟨Iff.rfl,rfl⟩
  ·rw [ah hk,ckV,ckV]
   cases hd:gT ND i with
   | none=>exact ⟨Iff.rfl,rfl⟩
   | some d=>
    simp only [Qj];by_cases h5:d.ai < 5
    ·rw [aj h5,aj h5];exact ⟨Iff.rfl,rfl⟩
    rw [ah h5,ah h5];by_cases F1:d.ai=5
    ·rw [aj F1,aj F1];split
     ·exact ⟨Iff.rfl,rfl⟩
     split
     ·exact ⟨Iff.rfl,rfl⟩
     ·exact qT fun r hr=>ih r hr _
    rw [ah F1,ah F1];by_cases h6:d.ai=6
    ·rw [aj h6,aj h6];split
     ·exact ⟨Iff.rfl,rfl⟩
     split
     ·exact ⟨Iff.rfl,rfl⟩
     ·exact qT fun r hr=>ih r hr _
    rw [ah h6,ah h6];by_cases h7:d.ai=7
    ·rw [aj h7,aj h7,aj (by by_cases h:k=5<;>simp_all),aj (by by_cases h:k=5<;>simp_all)];exact ⟨Iff.rfl,rfl⟩
    rw [ah h7,ah h7];split
    ·exact ⟨Iff.rfl,rfl⟩
    cases mF d s with
    | none=>exact ⟨Iff.rfl,rfl⟩
    | some c=>
     simp only
     cases d.aR[c]? with
     | none=>exact ⟨Iff.rfl,rfl⟩
     | some e=>
      simp only;split
      ·split<;>exact ⟨Iff.rfl,rfl⟩
      split
      ·exact ⟨Iff.rfl,rfl⟩
      ·exact qT fun r hr=>ih r hr _
def GU (x y:zB):Prop:=x.1=y.1/\x.2.1=y.2.1
theorem GU.rfl' (x:zB):GU x x:=⟨rfl,rfl⟩
theorem cA (e a b:Int):GU (bS e a) (bS e b):=⟨rfl,rfl⟩
theorem bu {p:Prop} [Decidable p] {x y x' y':zB} (h1:GU x x') (h2:GU y y'):GU (if p then x else y) (if p then x' else y'):=by
 split
 ·exact h1
 ·exact h2
theorem Gx (d:Nd) (k a b n:Int) (s:ByteArray):GU (ckLeaf d k a n s) (ckLeaf d k b n s):=by
 unfold ckLeaf;refine bu (bu (.rfl' _) (bu (.rfl' _) (cA _ _ _))) (bu (bu (cA _ _ _) (bu (cA _ _ _) (.rfl' _))) (bu (bu (cA _ _ _) (bu (cA _ _ _) (.rfl' _))) (bu (cA _ _ _) ?_)))
 cases cY d.af s with
 | none=>exact cA _ _ _
 | some i=>exact .rfl' _
theorem II (a b:Int) (t:List (Option Val) × Int × Int):GU (fC a t) (fC b t):=by
 unfold fC;exact bu (.rfl' _) (bu (cA _ _ _) (.rfl' _))
theorem Gy (ND:List Nd) (k a b n:Int) (s:ByteArray) (keys:List Wd) (ks:List Rw) (i:Int):GU (ckV ND (.mk k a n s keys ks) i) (ckV ND (.mk k b n s keys ks) i):=by
 rw [ckV,ckV]
 cases gT ND i with
 | none=>exact .rfl' _
 | some d=>
  refine bu (Gx _ _ _ _ _ _) (bu (bu (cA _ _ _) (bu (cA _ _ _) (.rfl' _))) (bu (bu (.rfl' _) (bu (cA _ _ _) (.rfl' _))) (bu (bu (cA _ _ _) (II _ _ _)) (bu (cA _ _ _) ?_))))
  cases mF d s with
  | none=>exact cA _ _ _
  | some c=>
   show GU (match d.aR[c]? with | none=>_ | some e=>_) (match d.aR[c]? with | none=>_ | some e=>_)
   cases d.aR[c]? with
   | none=>exact cA _ _ _
   | some e=>exact bu (bu (.rfl' _) (cA _ _ _)) (bu (cA _ _ _) (.rfl' _))
theorem IJ {L:Nat} {ND:List Nd} (fM:∀ n∈ND,zw L ND.length n) (r:Rw) (i:Int) (h:(ckV ND r i).2.1=0):0 < (ckV ND r i).1.k:=by
 obtain ⟨d,hd⟩:=CG fM (A1 fM _ r (bd _) i h);have:=(fM d (mG (ji hd.ag).2)).k1;have:=hd.k;omega
theorem C8 {L:Nat} {ND:List Nd} (fM:∀ n∈ND,zw L ND.length n) (k a b n:Int) (s:ByteArray) (keys:List Wd) (ks:List Rw) (i:Int) :
  let r:=ckV ND (.mk k a n s keys ks) i
  let u:=ckV ND (rtnR (.mk k a n s keys ks)) i
  let x:=ckV ND (.mk k b n s keys ks) i
  (r.2.1=0↔u.2.1=0)/\r.1=u.1/\r.2.1=x.2.1/\r.1=x.1/\(r.2.1=0->0 < r.1.k):=by
 have h1:=tA fM _ (.mk k a n s keys ks) (bd _) i;have h2:=Gy ND k a b n s keys ks i;exact ⟨h1.1.symm,h1.2.symm,h2.2,h2.1,IJ fM _ i⟩
end Go.Proofs.YtfdedoiiahbnnaaGreat
set_option maxRecDepth 100000
namespace Go.Proofs.YtfdedoiiahbnnaaGreat
namespace Dv
open Go Go.RowKit
theorem Gz {X:Ctx} {c:Code} {id:Nat} {k:List It} {st:St} (J:St->Prop) (h:kI X c [.rQ id,.mC J] st) (hJ:∀ s,J s->∃ s',Wk X s s' /\ go X 4000 k s'):kI X c (.rQ id :: k) st:=fun E a w hr=>by
 have key:∀ a w,kq X [.mC J] .normal a w->kq X k .normal a w:=by
  rintro a w ⟨s,E,h1,h2⟩;obtain ⟨s',h3,h4⟩:=hJ s h2;obtain ⟨E',h5⟩:=h3 E a w h1;exact go_sound 4000 _ _ h4 E' a w h5
 refine wp_mono (h E a w hr) ?_;intro e a w hq
 cases e with
 | normal=>exact key a w hq
 | ret=>exact mU (.rQ id :: k) a w hq
 | exit i=>
  simp only [kq] at hq ⊢;split at hq
  ·rename_i hi;rw [aj hi];exact key a w hq
  ·exact hq.elim
 | goto _=>exact hq.elim
 | panic _=>exact hq.elim
 | outgrown=>exact hq.elim
end Dv
open Go Go.RowKit Dv Go.Proofs.Tryz
theorem qU {ks:List Rw} {e:Nat} {x:Rw} (h:ks[e]? = some x):rtnRs (ks.take (e + 1))=rtnRs (ks.take e) ++ [rtnR x]:=by
 rw [eB,eB,List.take_add_one,h];simp
abbrev uO (k a n:Int) (s:ByteArray) (K V:DV):List DV:=[.v (.int .i64 k),.v (.int .i64 a),.v (.int .i64 n),.v (.string s),K,V]
abbrev rL:List DV:=[.v (.int .i64 0),.v (.int .i64 0),.v (.int .i64 0),.v (.string ⟨#[]⟩),.v (.slice none 0 0),.v (.slice none 0 0)]
abbrev Bj (k a n:Int) (s:ByteArray) (keys:List Wd) (ks L:List Rw) (q e:Nat):St:=⟨[aS 1 0,aS 2 1,aS 3 2,aA 4 e],[dRw (.mk k a n s keys ks),rL,uO k a n s (.v (.slice none 0 0)) (.sl 6 (dRws L) (some 0))],[⟨q,70,6,none⟩]⟩
theorem u0 (k a n:Int) (s:ByteArray) (keys:List Wd) (ks:List Rw) (gQ:¬ (k=5/\keys.length=ks.length)) (mV:keys.length<=1099511627776) (hl:ks.length<=1099511627776) (ih:∀ x∈ks,bh prog 32 [.agg (dRw x)] (.agg (dRw (rtnR x)))) :
  bh prog 32 [.agg (dRw (.mk k a n s keys ks))] (.agg (dRw (rtnR (.mk k a n s keys ks)))):=by
 have Ao:=fB ks;have wS:=aE keys;rw [rtnR,ah gQ];refine eG 100 [.cell 2 70] func32 rfl ntmps32 rfl fun _ _ _ _=>?_;refine lJ (fun e=>Bj k a n s keys ks (rtnRs (ks.take e)) e e) ks.length (fj 3 ⟨0,70,6,none⟩ rfl rfl rfl BC rfl rfl tU) ?_;intro e he;have Qk:(dRws (rtnRs (ks.take e))).length=e:=by rw [fB,kD,zLenT];omega
 refine br (fun av=>?_) (fun bO=>?_)
 ·have av:e < ks.length:=sV Ao av;obtain ⟨x,hx⟩:=gX av;have hc:=ih x (mG hx);have lA:=qU hx;generalize hX:rtnR x=X at hc lA;obtain ⟨xk,xa,xn,xs,xw,xv⟩:=X;obtain ⟨yk,ya,yn,ys,yw,yv⟩:=x;refine dS ?_;refine iX (j1 hx) ?_;refine cD KQ hc ?_;refine ⟨Qk,⟨by rw [Qk];simp [maxLen];omega,by rw [Qk];simp;omega⟩,?_⟩;exact rE ⟨_,by omega,e + 1,rfl,by omega,rfl⟩ (jy 3 (by repeat' (first | exact rfl | exact au rfl | exact az (bV av (by omega)) | exact dx ((nD _ _).trans (congrArg dRws lA.symm)) rfl | refine ⟨_,_,rfl,?_,?_⟩)) (by repeat' (first | exact trivial | exact au rfl | exact az (bV av (by omega)) | exact dx ((nD _ _).trans (congrArg dRws lA.symm)) rfl | refine ⟨⟨_,rfl,?_⟩,?_⟩)))
 ·have bO:e=ks.length:=sW Ao bO;subst bO;rw [List.take_length];rw [List.take_length] at Qk;refine ⟨⟨by simp [maxLen,wS];omega,by simp [wS];omega⟩,?_⟩;by_cases hk:k=5
  ·subst hk;refine br (fun g=>?_) (fun _=>?_)
   ·exfalso;simp [pickB,wS,Ao] at g;exact gQ ⟨rfl,by omega⟩
   exact ⟨_,ax,rfl⟩
  ·refine br (fun g=>absurd g (by simp [pickB,hk])) (fun _=>?_);exact ⟨_,ax,rfl⟩
end Go.Proofs.YtfdedoiiahbnnaaGreat
set_option maxRecDepth 100000
namespace Go.Proofs.YtfdedoiiahbnnaaGreat
open Go Go.RowKit Dv Go.Proofs.Tryz
section
variable {α:Type}
def rvG (d:α) (p:List α) (e:Nat):List α:=(List.range p.length).map fun i=>(if i < e∨p.length - e<=i then p[p.length - 1 - i]? else p[i]?).getD d
theorem jk (d:α) (p:List α) (e:Nat):(rvG d p e).length=p.length:=by simp [rvG]
theorem oT (d:α) (p:List α) (e i:Nat) (hi:i < p.length):(rvG d p e)[i]? = if i < e∨p.length - e<=i then p[p.length - 1 - i]? else p[i]?:=by grind [rvG]
theorem xT (d:α) (p:List α):rvG d p 0=p:=by
 apply List.ext_getElem?
 grind [oT,jk]
theorem rvG_end (d:α) (p:List α) (e:Nat) (h:p.length<=2 * e + 1) (he:e<=p.length):rvG d p e=p.reverse:=by
 apply List.ext_getElem?
 grind [oT,jk]
theorem xU (d:α) (p:List α) (e:Nat) (h:2 * e + 1 < p.length) {x y:α} (hx:p[p.length - 1 - e]? = some x) (hy:p[e]? = some y):((rvG d p e).set e x).set (p.length - 1 - e) y=rvG d p (e + 1):=by
 apply List.ext_getElem?
 grind [oT,jk]
theorem GA (d:α) (p:List α) (e:Nat) (h:2 * e + 1 < p.length):(rvG d p e)[e]? = p[e]? /\ (rvG d p e)[p.length - 1 - e]? = p[p.length - 1 - e]?:=by grind [oT]
variable (f:α->List DV) (c:Nat) (hf:∀ x,(f x).length=c)
include hf
theorem qV:∀ (L:List α) (i:Nat) (x:α),i < L.length->(L.map f).flatten.take (i * c) ++ f x ++ (L.map f).flatten.drop (i * c + c)=((L.set i x).map f).flatten
 | [],i,x,h=>by simp at h
 | y :: L,0,x,_=>by
  simp only [List.map_cons,List.flatten_cons,Nat.zero_mul,List.take_zero,List.nil_append,Nat.zero_add,List.set_cons_zero];rw [List.drop_left' (hf y)]
 | y :: L,i + 1,x,h=>by
  have:=qV L i x (sU h);simp only [List.map_cons,List.flatten_cons,List.set_cons_succ];have e1:(i + 1) * c=(f y).length + i * c:=by rw [hf,Nat.add_mul];omega
  rw [e1,List.take_length_add_append,Nat.add_assoc,List.drop_length_add_append,<- this];simp only [List.append_assoc]
theorem zY:∀ {L:List α} {k:Nat} {x:α},L[k]? = some x->((L.map f).flatten.drop (k * c)).take c=f x
 | [],_,_,h=>by simp at h
 | y :: L,0,x,h=>by
  simp only [List.getElem?_cons_zero,oI] at h;subst h;simp only [List.map_cons,List.flatten_cons,Nat.zero_mul,List.drop_zero];rw [List.take_left' (hf y)]
 | y :: L,k + 1,x,h=>by
  have:=zY (L:=L) (k:=k) (x:=x) (sU h);simp only [List.map_cons,List.flatten_cons];have e1:(k + 1) * c=(f y).length + k * c:=by rw [hf,Nat.add_mul];omega
  rw [e1,List.drop_length_add_append];exact this
end
theorem mB:∀ x:Rw,(dRw x).length=6
 | .mk _ _ _ _ _ _=>rfl
theorem oU (x:Wd):(kj x).length=2:=rfl
theorem xV {L:List Rw} {k:Nat} {x:Rw} (h:L[k]? = some x):cellsT tt 70 (dRws L).flatten ((k:Int).toNat * 6)=some (.agg (dRw x)):=by
 have hf:∃ a b,tt.find 70=some ⟨6,true,a,b⟩:=⟨_,_,rfl⟩;obtain ⟨a,b,hf⟩:=hf;unfold cellsT;rw [hf];simp only;rw [jB,Dl,dR,zY dRw 6 mB h,mB];rfl
theorem xW {L:List Wd} {k:Nat} {x:Wd} (h:L[k]? = some x):cellsT tt 34 (bf L).flatten ((k:Int).toNat * 2)=some (.agg (kj x)):=by
 have hf:∃ a b,tt.find 34=some ⟨2,true,a,b⟩:=⟨_,_,rfl⟩;obtain ⟨a,b,hf⟩:=hf;unfold cellsT;rw [hf];simp only;rw [jB,Dl,bf,zY kj 2 oU h];rfl
abbrev nJ (n k:Nat):DV:=.sl 0 (List.replicate n []) (some k)
abbrev GB (a n:Int) (s:ByteArray) (keys:List Wd) (ks:List Rw) (q e:Nat) (cs:List DV):St:=⟨[aS 1 0,aS 2 1,aS 3 2,aA 4 e],[dRw (.mk 5 a n s keys ks),rL,uO 5 a n s (nJ 0 1) (nJ q 0)],[⟨q,70,6,some cs⟩,⟨0,34,2,some []⟩]⟩
abbrev GC (a n:Int) (s:ByteArray) (keys:List Wd) (ks:List Rw) (N N1 i j:Nat) (c0 c1:List DV):St:=⟨[aS 2 1,aS 3 2,aA 5 i,aA 6 j],[dRw (.mk 5 a n s keys ks),rL,uO 5 a n s (nJ N1 1) (nJ N 0)],[⟨N,70,6,some c0⟩,⟨N1,34,2,some c1⟩]⟩
end Go.Proofs.YtfdedoiiahbnnaaGreat
namespace Go.Proofs.YtfdedoiiahbnnaaGreat
namespace Dv
open Go Go.RowKit
section
variable {P:Program} {ops:Array Oper} {C:Nat->World->Prop} {Q:Act->World->Prop} {W:Nat->Nat->Bool}
def zZ (ops:Array Oper) (W:Nat->Nat->Bool) (j i:Nat):Bool:=ik ops (fun k=>W k j) j i
def tB (ops:Array Oper) (W:Nat->Nat->Bool):Bool:=
 (List.range ops.size).all fun i=>(List.range ops.size).all fun j=>
  Nat.beq i j || ordB ops ops.size i j || ordB ops ops.size j i || (A2 ops i && A2 ops j) || (zZ ops W j i && zZ ops W i j)
def runS2 (P:Program) (ops:Array Oper) (W:Nat->Nat->Bool) (C:Nat->World->Prop) (Q:Act->World->Prop):dg->Act->World->Prop
 | .fin,a,w=>Q a w
 | .op i t,a,w=>∃ o,ops[i]? = some o/\∃ v,Yl P ops (C i) o v a/\(isL o.op=true->C i w)/\runS2 P ops W C Q t (a.put o.dst v) w
 | .ev i t alt,a,w=>(∃ o,ops[i]? = some o/\cd P ops o a w fun a' w'=>(∀ j,W i j=false->C j w->C j w')/\runS2 P ops W C Q t a' w')/\runS2 P ops W C Q alt a w
 | .stop,_,_=>True
def Bl (P:Program) (ops:Array Oper) (W:Nat->Nat->Bool) (C:Nat->World->Prop) (Q:Act->World->Prop) (rem:List Nat) (a:Act) (w:World):Prop:=∃ T,chkA ops T rem none=true/\runS2 P ops W C Q T a w
theorem tD {rem:List Nat} (hP:tB ops W=true) (hc:Cl ops rem) {i j:Nat} (hi:rdy ops rem i=true) (hj:rdy ops rem j=true) (jt:i∈rem) (mE:j∈rem) (fL:i≠j) (MA:A2 ops i=false∨A2 ops j=false):zZ ops W j i=true:=by
 obtain ⟨o,ho,ha⟩:=dT hi;obtain ⟨o',rR,ha'⟩:=dT hj;simp only [tB,List.all_eq_true,List.mem_range] at hP;have h1:=hP i (Array.getElem?_eq_some_iff.1 ho).1 j (Array.getElem?_eq_some_iff.1 rR).1;simp only [Bool.or_eq_true,aP,Nat.beq_eq] at h1
 grind [zD]
theorem qW (dP:∀ (j:Nat) (o:Oper) cs b,ops[j]? = some o->o.op ≠ .select cs b) (hP:tB ops W=true) {i:Nat} {o:Oper} (hi:ops[i]? = some o) (hE:isE o.op=false) :
  ∀ (T:dg) (rem:List Nat) (a:Act) (w:World),rem.Nodup->Cl ops rem->chkA ops T rem none=true->runS2 P ops W C Q T a w->i∈rem->rdy ops rem i=true ->
   ∃ v,Yl P ops (C i) o v a/\(isL o.op=true->C i w)/\Bl P ops W C Q (rem.erase i) (a.put o.dst v) w
 | .fin,rem,a,w,_,_,hc,_,jt,_=>by grind [chkA]
 | .stop,rem,a,w,_,_,hc,_,_,_=>by simp [chkA] at hc
 | .ev j t alt,rem,a,w,hn,cC,hc,hr,jt,rG=>by
  exfalso
  have key:∀ (T:dg) (seen:List Nat),(∀ k∈seen,A2 ops k=true)->chkA ops T rem (some seen)=true->False:=by
   intro T
   induction T with
   | fin=>intro seen _ h;simp [chkA] at h
   | op=>intro seen _ h;simp [chkA] at h
   | ev k t alt _ ih=>grind [chkA]
   | stop=>grind [chkA,nF]
  grind [chkA]
 | .op j t,rem,a,w,hn,cC,hc,hr,jt,rG=>by
  simp only [chkA,aP,Bool.not_eq_true'] at hc;obtain ⟨_,mE,JE,F2,x7⟩:=hc;have mE:j∈rem:=sU mE;simp only [runS2] at hr;obtain ⟨y,hy,v,DS,LH,Ir⟩:=hr;by_cases fL:i=j
  ·subst fL;rw [hi] at hy;simp only [oI] at hy;subst hy;exact ⟨v,DS,LH,t,x7,Ir⟩
  ·have vN:=tD hP cC rG F2 jt mE fL (.inr JE);obtain ⟨BE,IZ,_,_⟩:=cV vN hy hi;obtain ⟨u,hu,P5,T',Sx,CH⟩:=qW dP hP hi hE t (rem.erase j) (a.put y.dst v) w (hn.erase j) (iA hn cC F2) x7 Ir ((List.mem_erase_of_ne fL).2 jt) (eA rG);have De:=fun cs b=>dP i o cs b hi;have O2:=fun cs b=>dP j y cs b hy;obtain ⟨_,Sy,_⟩:=Oper.apart_spec BE;refine ⟨u,(Yl.same BE De).1 hu,P5,.op j T',?_,?_⟩
   ·grind [chkA,eA]
   ·simp only [runS2];refine ⟨y,hy,v,(Yl.same IZ O2).2 DS,LH,?_⟩;rw [<- Act.put_comm a v u Sy];exact CH
theorem tE {e:Nat}:∀ (T:dg) (rem:List Nat) (seen:List Nat) (a:Act) (w:World),chkA ops T rem (some seen)=true->runS2 P ops W C Q T a w->e∈rem->rdy ops rem e=true->e ∉ seen ->
  ∃ o t,ops[e]? = some o/\chkA ops t (rem.erase e) none=true/\cd P ops o a w fun a' w'=>(∀ j,W e j=false->C j w->C j w')/\runS2 P ops W C Q t a' w'
 | .fin,rem,seen,a,w,hc,_,_,_,_=>by simp [chkA] at hc
 | .op _ _,rem,seen,a,w,hc,_,_,_,_=>by simp [chkA] at hc
 | .stop,rem,seen,a,w,hc,_,hm,hr,hs=>by
  simp only [chkA,List.all_eq_true,Bool.or_eq_true,Bool.not_eq_true'] at hc;rcases hc e hm with h | h
  ·rw [hr] at h;cases h
  ·exact (hs (sU h)).elim
 | .ev i t alt,rem,seen,a,w,hc,hr,hm,rG,hs=>by
  simp only [chkA,aP,Option.getD_some] at hc;simp only [runS2] at hr;obtain ⟨⟨o,ho,bo⟩,LI⟩:=hr;by_cases Hx:i=e
  ·subst Hx;exact ⟨o,t,ho,hc.2.2.2.1,bo⟩
  ·exact tE alt rem (i :: seen) a w hc.2.2.2.2 LI hm rG (fun h=>by
    rcases bX h with h | h
    ·exact Hx h.symm
    ·exact hs h)
theorem xX (dP:∀ (j:Nat) (o:Oper) cs b,ops[j]? = some o->o.op ≠ .select cs b) (hP:tB ops W=true) {i:Nat} {o:Oper} (hi:ops[i]? = some o) (hE:isE o.op=true) :
  ∀ (T:dg) (rem:List Nat) (a:Act) (w:World),rem.Nodup->Cl ops rem->chkA ops T rem none=true->runS2 P ops W C Q T a w->i∈rem->rdy ops rem i=true ->
   cd P ops o a w (fun a' w'=>(∀ j,W i j=false->C j w->C j w')/\Bl P ops W C Q (rem.erase i) a' w')
 | .fin,rem,a,w,_,_,hc,_,jt,_=>by grind [chkA]
 | .stop,rem,a,w,_,_,hc,_,_,_=>by simp [chkA] at hc
 | .ev j t alt,rem,a,w,hn,cC,hc,hr,jt,rG=>by
  simp only [chkA,aP,Option.getD_none] at hc;simp only [runS2] at hr;obtain ⟨⟨y,hy,bo⟩,LI⟩:=hr;by_cases fL:i=j
  ·subst fL;rw [hi] at hy;simp only [oI] at hy;subst hy;exact bM (fun a' w' h=>⟨h.1,t,hc.2.2.2.1,h.2⟩) bo
  ·obtain ⟨o',t',rR,x7,hs⟩:=tE alt rem [j] a w hc.2.2.2.2 LI jt rG (sU fL);rw [hi] at rR;simp only [oI] at rR;subst rR;exact bM (fun a' w' h=>⟨h.1,t',x7,h.2⟩) hs
 | .op j t,rem,a,w,hn,cC,hc,hr,jt,rG=>by
  simp only [chkA,aP,Bool.not_eq_true'] at hc;obtain ⟨_,mE,JE,F2,x7⟩:=hc;have mE:j∈rem:=sU mE;simp only [runS2] at hr;obtain ⟨y,hy,v,DS,LH,Ir⟩:=hr;have fL:i≠j:=by grind [nF]
  have vN:=tD hP cC rG F2 jt mE fL (.inr JE);obtain ⟨BE,IZ,_,Tz⟩:=cV vN hy hi;have De:=fun cs b=>dP i o cs b hi;have O2:=fun cs b=>dP j y cs b hy;have ih:=xX dP hP hi hE t (rem.erase j) (a.put y.dst v) w (hn.erase j) (iA hn cC F2) x7 Ir ((List.mem_erase_of_ne fL).2 jt) (eA rG);refine bM ?_ (iP ((ka BE De).1 ih));rintro a' w' ⟨⟨BF,T',Sx,CH⟩,u,rfl⟩;refine ⟨BF,.op j T',?_,?_⟩
  ·grind [chkA,eA]
  ·grind [runS2,Yl.same]
theorem C9 {Q':Exit->Act->World->Prop} (dP:∀ (j:Nat) (o:Oper) cs b,ops[j]? = some o->o.op ≠ .select cs b) (hP:tB ops W=true) (hb:∀ (i:Nat) (o:Oper),ops[i]? = some o->∀ e∈o.after,Region.binds .any e=true->e.on < ops.size)
  (hQ:∀ a w,Q a w->Q' .normal a w):∀ (fm:Nat) (ak:Array Bool) (rem:List Nat) (a:Act) (w:World),
  ak.size=ops.size->(∀ i,i∈rem↔i < ops.size/\ak.getD i true=false)->rem.Nodup->Cl ops rem->rem.length<=fm->Bl P ops W C Q rem a w->wpAny P .any ops Q' fm ak a w:=by
 have uM:∀ (ak:Array Bool) (rem:List Nat),ak.size=ops.size->(∀ i,i∈rem↔i < ops.size/\ak.getD i true=false)->∀ i,i∈Region.ready .any ops ak↔i∈rem/\rdy ops rem i=true:=by
  intro ak rem cf iQ i;have hl:∀ k,k < ops.size->(ak.getD k false=true↔k ∉ rem):=fun k hk=>by grind
  rw [mem_ready]
  grind [rdy,dT]
 intro fm
 induction fm with
 | zero=>
  intro ak rem a w cf iQ hn cC hlen hr;have:rem=[]:=List.length_eq_zero_iff.1 (by omega);subst this;obtain ⟨T,hT,CH⟩:=hr;refine ⟨?_,hQ _ _ ?_⟩
  ·rw [List.eq_nil_iff_forall_not_mem];intro i hi;cases ((uM ak [] cf iQ i).1 hi).1
  ·cases T with
   | fin=>exact CH
   | op i t=>simp [chkA] at hT
   | ev i t alt=>simp [chkA] at hT
   | stop=>simp [chkA] at hT
 | succ fm ih=>
  intro ak rem a w cf iQ hn cC hlen hr;obtain ⟨T,hT,CH⟩:=hr;refine ⟨fun h0=>?_,fun i hi=>?_⟩
  ·cases T with
   | fin=>exact hQ _ _ CH
   | op i t=>
    exfalso;simp only [chkA,aP] at hT;have:=(uM ak rem cf iQ i).2 ⟨by simpa using hT.2.1,hT.2.2.2.1⟩;rw [h0] at this;cases this
   | ev i t alt=>
    exfalso;simp only [chkA,aP] at hT;have:=(uM ak rem cf iQ i).2 ⟨by simpa using hT.1,hT.2.2.1⟩;rw [h0] at this;cases this
   | stop=>simp [chkA] at hT
  ·obtain ⟨jt,Sz⟩:=(uM ak rem cf iQ i).1 hi;obtain ⟨o,ho,_⟩:=dT Sz;have iF:=(Array.getElem?_eq_some_iff.1 ho).1
   have se:∀ k,k∈rem.erase i↔k < ops.size/\(ak.setIfInBounds i true).getD k true=false:=by
    intro k;rw [List.Nodup.mem_erase_iff hn];by_cases lO:k=i
    ·subst lO;simp [cf,iF]
    ·rw [getD_set_ne true (Ne.symm lO)]
     grind
   grind [Bl,iA,mX,isE,bM,xX,qW,fl]
end
section
variable {X:Ctx} {st:St} {E:En} {a:Act} {w:World}
theorem GD {o2:Oper} {d1 kt ty e m oB:Nat} {z:Int} {es:List (List DV)} {cs cs':List DV} {v:Value} {x:Operand} {dv:DV} {g cap:Nat}
  (hr1:Rel X E st a w) (h2:o2.op = .store ty (.tmp d1) x) (ht1:a.eval (.tmp d1) = .pointer (some ⟨g,z.toNat * e,none⟩)) (hv:Rv E (.sl 0 es (some kt)) v) (UH:v = .slice (some ⟨g,0,none⟩) m cap)
  (hx:rv st [] x=some dv) (Oj:eraL dv.cells (fun l=>some l)=some cs') (Lc:dv.cells.length=e) (UI:0 < e)
  (cf:X.T.sz ty=some e) (hq:st.tk[kt]? = some ⟨m,oB,e,some cs⟩) (gU:es.length=m) (hz:0<=z/\z < m) (bo:X.still=false) :
  ∃ w' E',(execOp a.eval o2).run X.P w = .ok .skip w' /\ Rel X E' ⟨st.sl,st.bx,st.tk.set kt ⟨m,oB,e,some (cs.take (z.toNat * e) ++ cs' ++ cs.drop (z.toNat * e + e))⟩⟩ a w' /\ CC E st.bx w w':=by
 obtain ⟨g',jF,cur,e1,gh,hy,hw0,vE,h5,h6,pj,ru,fI,hc0⟩:=uQ hr1 hv hq gU (by omega);rw [UH] at e1;injection e1 with i1 i2 i3
 injection i1 with i1
 injection i1 with i1
 subst i1 i3;rw [UH] at hy;have e3:=aK hr1.rl hx;have cC:RvC E dv.cells (a.eval x).cells.toList:=e3.cells (eX (n:=e) Lc (by omega));have vB:(a.eval x).cells.toList.length=e:=by rw [cC.1.length];exact Lc
 obtain ⟨l',Bw,hx1,_⟩:=kT Oj cC;simp only [oI] at Bw;rw [Bw] at hx1;have hme:m * e<=cap * e:=Nat.mul_le_mul_right _ pj
 have mQ:z.toNat * e + e<=m * e:=by
  have:(z.toNat + 1) * e<=m * e:=Nat.mul_le_mul_right _ (by omega);rw [Nat.add_mul] at this;omega
 have JA:cur.toList.length=cap * e:=sU vE;have IX:=fW (P:=X.P) (t:=ty) (off:=z.toNat * e) (n:=e) hw0 (vq X.hT cf) vB (by rw [vE];omega) (List.all_eq_true.2 cC.2);generalize hN:cur.toList.take (z.toNat * e) ++ (a.eval x).cells.toList ++ cur.toList.drop (z.toNat * e + e)=N at IX;have hNl:N.length=cap * e:=by grind
 have hNt:N.take (m * e)=(cur.toList.take (m * e)).take (z.toNat * e) ++ (a.eval x).cells.toList ++ (cur.toList.take (m * e)).drop (z.toNat * e + e):=by
  subst hN;rw [List.take_append,List.take_append,List.take_take,List.take_take];have h1:(cur.toList.take (z.toNat * e)).length=z.toNat * e:=by rw [zLenT];omega
  rw [List.length_append,h1,vB,Nat.min_eq_right (by omega),Nat.min_eq_left (by omega),List.take_of_length_le (l:=(a.eval x).cells.toList) (by rw [vB];omega),List.drop_take]
 have ri:vm (World.bZ w g (.cells N.toArray oB (0,0))) E.c E.β ⟨m,oB,e,some (cs.take (z.toNat * e) ++ cs' ++ cs.drop (z.toNat * e + e))⟩ (.slice (some ⟨g,0,none⟩) m cap):=by
  refine .inr ⟨g,cap,_,rfl,er hw0,⟨by simpa using hNl,fun mD Af=>?_⟩,pj,ru,fI,hc0⟩;simp only [oI] at Af;subst Af;simp only;have h8:=((RvC.take (z.toNat * e) h6).append hx1).append (RvC.drop (z.toNat * e + e) h6);rw [<- hNt] at h8;have hl8:=h8.1.length;refine ⟨?_,by show RvC E.cl _ (N.toArray.toList.take (m * e));simpa using h8⟩;rw [<- hl8,zLenT,hNl];omega
 obtain ⟨ba,_⟩:=tO (q':=⟨m,oB,e,some (cs.take (z.toNat * e) ++ cs' ++ cs.drop (z.toNat * e + e))⟩) (w':=World.bZ w g (.cells N.toArray oB (0,0))) hr1 bo gh hy rfl rfl rfl (.inl ⟨rfl,rfl⟩) ri (.inl rfl) rfl rfl rfl (by rw [dp];exact bd _) (fun j _ aY=>bB (by
  rintro rfl
  exact aY rfl))
 refine ⟨_,_,?_,ba,⟨fun i b _ hb _ _=>bB (by
  rintro rfl
  exact fI (mG hb)),fun y v hy=>ba.env.sub y v hy⟩⟩
 simp only [execOp,h2,ht1,Instr.storeAt,Instr.sureAddr,Sem.run_bind,Sem.run_pure,Result.andThen_ok,IX]
end
section
variable {X:Ctx} {st:St} {k:List It} {E:En} {a:Act} {w:World} {ops:Array Oper} {C:Nat->World->Prop} {Q:Act->World->Prop} {W:Nat->Nat->Bool} {T:dg}
theorem fU {i:Nat} {o:Oper} (hR:Rel X E st a w) (ho:ops[i]? = some o) (hL:isL o.op=false) (hg:o.guard=none) {s:DV} (hs:pureT X.P X.T ⟨st.sl,[],[]⟩ [] o.op=some s) (hd:dF X.nt st.sl o.dst=true)
  (hk:∀ a',Rel X E (st.put o.dst ⟨[],s⟩) a' w->runS2 X.P ops W C Q T a' w):runS2 X.P ops W C Q (.op i T) a w:=by
 have fN:Rl E [] (fun _=>False) st.sl a:=⟨hR.tm,fun i cs hi=>by simp at hi,fun _ _ _ _ h=>h.elim⟩;obtain ⟨v,hv,bg⟩:=cR (st:=⟨st.sl,[],[]⟩) X.hT fN (aG _) hs;exact ⟨o,ho,v,.inl ⟨bK hg,fun w' _=>bg w' fun h=>by rw [hL] at h;cases h⟩,fun h=>(by rw [hL] at h;cases h),hk _ (aO hR hd s v hv)⟩
theorem og {i:Nat} {o:Oper} (hR:Rel X E st a w) (ho:ops[i]? = some o) {bx:List (List DV)} (fN:Rl E bx (C i) st.sl a) (Hi:C i w) (hg:o.guard=none) {s:DV} (hs:pureT X.P X.T ⟨st.sl,bx,[]⟩ [] o.op=some s) (hd:dF X.nt st.sl o.dst=true)
  (hk:∀ a',Rel X E (st.put o.dst ⟨[],s⟩) a' w->runS2 X.P ops W C Q T a' w):runS2 X.P ops W C Q (.op i T) a w:=by
 obtain ⟨v,hv,bg⟩:=cR (st:=⟨st.sl,bx,[]⟩) X.hT fN (aG _) hs;exact ⟨o,ho,v,.inl ⟨bK hg,fun w' h=>bg w' h⟩,fun _=>Hi,hk _ (aO hR hd s v hv)⟩
theorem Bm {o1 o2:Oper} {i1 i2 d1 d2 kt t ty et e gg m oB nn:Nat} {bb:Bool} {zz:List Value} {z:Int} {kd:IntKind} {es:List (List DV)} {cs:List DV} {s ix:Operand} {d':DV}
  (hR:Rel X E st a w) (g1:ops[i1]? = some o1) (g2:ops[i2]? = some o2) (h1:o1.op = .indexAddr t s ix/\o1.dst=some d1/\o1.guard=none) (h2:o2.op = .load ty (.tmp d1)/\o2.dst=some d2/\o2.guard=none)
  (vb:dF X.nt st.sl (some d1)=true) (BG:dF X.nt ((d1,⟨[],.pt [] 0⟩) :: st.sl) (some d2)=true)
  (hs:rv st [] s=some (.sl 0 es (some kt))) (hi:rv st [] ix=some (.v (.int kd z))) (hT:X.T.find t=some ⟨nn,bb,.sl et e gg,zz⟩) (hq:st.tk[kt]? = some ⟨m,oB,e,some cs⟩) (gU:es.length=m) (hz:0<=z/\z < m)
  (hl:cellsT X.T ty cs (z.toNat * e)=some d') (hC:∀ w',C i2 w' -> w'=w) (Hi:C i2 w)
  (hk:∀ a',Rel X E ⟨(d2,⟨[],d'⟩) :: (d1,⟨[],.pt [] 0⟩) :: st.sl,st.bx,st.tk⟩ a' w->runS2 X.P ops W C Q T a' w):runS2 X.P ops W C Q (.op i1 (.op i2 T)) a w:=by
 have fN:=hR.rl;have e2:=bm (aK fN hi);obtain ⟨g,cap,cur,e1,gh,hy,hw0,vE,cC,G8,GW,hcm,Ts,hgc⟩:=uQ hR (aK fN hs) hq gU (by omega);have KN:isE o1.op=false:=by rw [h1.1];all_goals rfl
 have SV:isL o1.op=false:=by rw [h1.1];all_goals rfl
 have Qg:isE o2.op=false:=by rw [h2.1];all_goals rfl
 have hr1:Rel X E ⟨(d1,⟨[],.pt [] 0⟩) :: st.sl,st.bx,st.tk⟩ (a.put (some d1) (.pointer (some ⟨g,z.toNat * e,none⟩))) w:=aO hR vb (.pt [] 0) _ (by unfold Rv;exact ⟨g,z.toNat * e,rfl,by simp only [RvAt]⟩)
 have ht1:(a.put (some d1) (.pointer (some ⟨g,z.toNat * e,none⟩))).eval (.tmp d1) = .pointer (some ⟨g,z.toNat * e,none⟩):=by
  simp only [dF,aP,Nat.blt_eq] at vb;simp [Act.eval,Act.put,hR.sz,vb.1]
 simp only [runS2];refine ⟨_,g1,.pointer (some ⟨g,z.toNat * e,none⟩),.inl ⟨bK h1.2.2,fun w9 _=>A6 h1.1 e1 e2 hT hz w9⟩,fun h9=>(by rw [SV] at h9;cases h9),?_⟩;rw [h1.2.1];generalize a.put (some d1) (.pointer (some ⟨g,z.toNat * e,none⟩))=a1 at hr1 ht1;obtain ⟨v,hv,Mi⟩:=gp X.hT G8 (b:=g) (p:=0) hl;have Mi:=Mi w fun j u hj=>by grind [bD]
 rw [Nat.zero_add] at Mi;refine ⟨_,g2,v,.inl ⟨bK h2.2.2,fun w9 h9=>?_⟩,fun _=>Hi,?_⟩
 ·have qZ:=hC w9 (h9 (by rw [h2.1];rfl));subst qZ;simp only [execOp,h2.1,ht1,Sem.run_bind,Instr.loadAt,Instr.sureAddr,Sem.run_pure,Result.andThen_ok,Mi]
 ·rw [h2.2.1];exact hk _ (aO hr1 BG d' v (Rv.mono (Ext.Am E) hv))
theorem Bn {o1 o2:Oper} {i1 i2 d1 kt t ty et e gg m oB nn:Nat} {bb:Bool} {zz:List Value} {z:Int} {kd:IntKind} {es:List (List DV)} {cs cs':List DV} {s ix x:Operand} {dv:DV}
  (hR:Rel X E st a w) (g1:ops[i1]? = some o1) (g2:ops[i2]? = some o2) (h1:o1.op = .indexAddr t s ix/\o1.dst=some d1/\o1.guard=none) (h2:o2.op = .store ty (.tmp d1) x/\o2.dst=none/\o2.guard=none)
  (vb:dF X.nt st.sl (some d1)=true)
  (hs:rv st [] s=some (.sl 0 es (some kt))) (hi:rv st [] ix=some (.v (.int kd z))) (hx:rv ⟨(d1,⟨[],.pt [] 0⟩) :: st.sl,st.bx,st.tk⟩ [] x=some dv) (Oj:eraL dv.cells (fun l=>some l)=some cs') (Lc:dv.cells.length=e) (UI:0 < e)
  (hT:X.T.find t=some ⟨nn,bb,.sl et e gg,zz⟩) (cf:X.T.sz ty=some e) (hq:st.tk[kt]? = some ⟨m,oB,e,some cs⟩) (gU:es.length=m) (hz:0<=z/\z < m) 
  (hk:∀ a' E' w',CC E st.bx w w' -> Rel X E' ⟨(d1,⟨[],.pt [] 0⟩) :: st.sl,st.bx,st.tk.set kt ⟨m,oB,e,some (cs.take (z.toNat * e) ++ cs' ++ cs.drop (z.toNat * e + e))⟩⟩ a' w' -> (∀ j,W i2 j=false->C j w->C j w')/\runS2 X.P ops W C Q T a' w')
  (bo:X.still=false:=by exact rfl):runS2 X.P ops W C Q (.op i1 (.ev i2 T .stop)) a w:=by
 have fN:=hR.rl;have e2:=bm (aK fN hi);have hv:=aK fN hs;obtain ⟨g,cap,cur,e1,_⟩:=uQ hR hv hq gU (by omega);have KN:isE o1.op=false:=by rw [h1.1];all_goals rfl
 have SV:isL o1.op=false:=by rw [h1.1];all_goals rfl
 have Qg:isE o2.op=true:=by rw [h2.1];all_goals rfl
 have hr1:Rel X E ⟨(d1,⟨[],.pt [] 0⟩) :: st.sl,st.bx,st.tk⟩ (a.put (some d1) (.pointer (some ⟨g,z.toNat * e,none⟩))) w:=aO hR vb (.pt [] 0) _ (by unfold Rv;exact ⟨g,z.toNat * e,rfl,by simp only [RvAt]⟩)
 have ht1:(a.put (some d1) (.pointer (some ⟨g,z.toNat * e,none⟩))).eval (.tmp d1) = .pointer (some ⟨g,z.toNat * e,none⟩):=by
  simp only [dF,aP,Nat.blt_eq] at vb;simp [Act.eval,Act.put,hR.sz,vb.1]
 simp only [runS2];refine ⟨_,g1,.pointer (some ⟨g,z.toNat * e,none⟩),.inl ⟨bK h1.2.2,fun w9 _=>A6 h1.1 e1 e2 hT hz w9⟩,fun h9=>(by rw [SV] at h9;cases h9),?_⟩;rw [h1.2.1];generalize a.put (some d1) (.pointer (some ⟨g,z.toNat * e,none⟩))=a1 at hr1 ht1;have wS:=bK (ops:=ops) (a:=a1) h2.2.2;refine ⟨⟨_,g2,?_⟩,trivial⟩;unfold cd;rw [aj wS];obtain ⟨w2,E2,bg,lU,nN⟩:=GD hr1 h2.1 ht1 hv e1 hx Oj Lc UI cf hq gU hz bo;refine tQ bg ?_;rw [h2.2.1];exact hk _ _ _ nN lU
theorem drawG_2 {id:Nat} (W:Nat->Nat->Bool) (T:dg) (hm:X.P.follows .mixedOrders=true) (hc:(zE ops && tB ops W && chkA ops T (List.range ops.size) none)=true)
  (h:∀ E a w,Rel X E st a w->∃ C,runS2 X.P ops W C (kq X k .normal) T a w):jo X id ops k st:=by
 intro E a w hr;have ei:=eE hr;simp only [aP] at hc;obtain ⟨⟨hN,hP⟩,hT⟩:=hc;simp only [zE,aP,List.all_eq_true,List.mem_range] at hN;obtain ⟨C,bg⟩:=h E a w.drew ei;refine wp_region_any hm ?_;refine C9 (C:=C) (Q:=kq X k .normal) (Region.noSelect_spec hN.1) hP (fun i o ho e he hb=>?_) (fun a w hq=>hq) ops.size (Array.replicate ops.size false) (List.range ops.size) a _ (by simp) ?_ List.nodup_range ?_ (by simp) ⟨T,hT,bg⟩
 ·have h1:=hN.2 i (Array.getElem?_eq_some_iff.1 ho).1;rw [ho] at h1;have h2:=List.all_eq_true.1 h1 e (sU he);rw [hb] at h2;simpa using h2
 ·simp_all
 ·intro k o ho hk
  grind
end
end Dv
end Go.Proofs.YtfdedoiiahbnnaaGreat
set_option maxRecDepth 100000
namespace Go.Proofs.YtfdedoiiahbnnaaGreat
namespace Dv
theorem A7 {n0 m0:Nat} {st aJ:St} (n:Nat) (q q':TkE) (hq:q.new=true) (jq:q'.new=true) (hn:Nat.ble n st.bx.length=true) (h3:st.tk ++ [q,q']=aJ.tk) (h2:WeLL n st.tk.length aJ.tk (st.bx.take n) aJ.bx) (h4:Nat.ble n0 n=true) (h5:Nat.ble m0 st.tk.length=true)
  (h:jr n st.tk.length aJ.tk st.sl aJ.sl):kG n0 m0 st aJ:=by
 have hl:(st.bx.take n).length=n:=by simp_all
 exact ⟨st.tk,[],[q,q'],st.bx.take n,st.bx.drop n,by simpa using h5,by rw [hl];simpa using h4,by simp,h3.symm,by simp [hq,jq],(List.take_append_drop n st.bx).symm,by rw [hl];exact h2,by rw [hl];exact h⟩
theorem IK {X:Ctx} {sl l:List (Nat × Sl)} {bx:List (List DV)} {tk:List TkE} (h:Dv.sf sl l):Wk X ⟨sl,bx,tk⟩ ⟨l,bx,tk⟩:=fun E _ _ hr=>⟨E,{ hr with tm:=fun i x hx=>hr.tm i x (Dv.kZ h i x hx) }⟩
end Dv
open Go Go.RowKit Dv Go.Proofs.Tryz
theorem z6 (a n:Int) (s:ByteArray) (keys:List Wd) (ks:List Rw) (rW:keys.length=ks.length) (aY:ks ≠ []) (hl:ks.length<=1099511627776) (ih:∀ x∈ks,bh prog 32 [.agg (dRw x)] (.agg (dRw (rtnR x)))) :
  bh prog 32 [.agg (dRw (.mk 5 a n s keys ks))] (.agg (dRw (rtnR (.mk 5 a n s keys ks)))):=by
 have Ao:=fB ks;have wS:=aE keys;have mQ:0 < ks.length:=List.length_pos_iff.2 aY;have nk:∀ N,(List.replicate N ([]:List DV)).length=N:=fun N=>List.length_replicate;rw [rtnR,aj ⟨rfl,rW⟩];refine eG 100 [.cell 2 70] func32 rfl ntmps32 rfl fun _ _ _ _=>?_;refine b9 (fun j st=>∃ (e:Nat) (cs:List DV),st=GB a n s keys ks e e cs/\cs=(dRws (rtnRs (ks.take e))).flatten/\e<=ks.length/\j=ks.length - e) ks.length (GB a n s keys ks 0 0 []) ?_ ⟨0,_,rfl,rfl,by omega,by omega⟩ ?_
 ·exact A7 3 ⟨0,70,6,some []⟩ ⟨0,34,2,some []⟩ rfl rfl rfl rfl (by repeat' (first | exact rfl | exact au rfl | exact cT (Nat.zero_le _) rfl | refine ⟨_,_,rfl,?_,?_⟩)) rfl rfl wB
 rintro j st ⟨e,cs,rfl,bP,he,rfl⟩;refine br (fun av=>?_) (fun bO=>?_)
 ·have av:e < ks.length:=sV Ao av;obtain ⟨x,hx⟩:=gX av;have hc:=ih x (mG hx);have lA:=qU hx;generalize hX:rtnR x=X at hc lA;obtain ⟨xk,xa,xn,xs,xw,xv⟩:=X;obtain ⟨yk,ya,yn,ys,yw,yv⟩:=x;refine dS ?_;refine iX (j1 hx) ?_;refine cD KQ hc ?_;refine ⟨⟨⟨nk e,by simp⟩,by simp [maxLen];omega,by simp;omega⟩,?_⟩;exact ⟨GB a n s keys ks (e + 1) (e + 1) (cs ++ dRw (.mk xk xa xn xs xw xv)),(jy 3 (GK (bV av (by omega))) (iG (bV av (by omega)))),ks.length - (e + 1),by omega,e + 1,_,rfl,by rw [lA,<- nD,List.flatten_append,<- bP];simp,by omega,rfl⟩
 ·have bO:e=ks.length:=sW Ao bO;subst bO;rw [List.take_length] at bP;refine ⟨⟨⟨rfl,fun h=>by rw [h] at wS;simp at wS;omega⟩,by simp [maxLen,wS];omega,by simp [wS];omega⟩,?_⟩;refine br (fun _=>?_) (fun g=>absurd g (by simp [pickB,wS,Ao,rW]));refine dI ?_;refine Gz (fun s'=>s'.bx=[dRw (.mk 5 a n s keys ks),rL,uO 5 a n s (nJ (0 + (bf keys).length) 1) (nJ ks.length 0)]/\s'.tk=[⟨ks.length,70,6,some (dRws (rtnRs ks).reverse).flatten⟩,⟨(0 + (bf keys).length),34,2,some (bf keys.reverse).flatten⟩]/\Dv.sf s'.sl [((2:Nat),(⟨[],.loc 1 0⟩:Sl)),aS 3 2]) ?_ ?_
  ·have Ql:(rtnRs ks).length=ks.length:=kD ks
   have hw0:IntKind.i64.wrap ((ks.length:Int) - 1)=((ks.length - 1:Nat):Int):=by
    rw [wrap64 (by omega) (by omega)];omega
   have Ih:IntKind.i64.wrap (((dRws ks).length:Int) - 1)=((ks.length - 1:Nat):Int):=by rw [Ao];exact hw0
   generalize Ry:rtnRs ks=L at Ql bP ⊢;generalize hD:(Rw.mk 0 0 0 al [] [])=dr;generalize hDw:(Wd.mk al 0)=dw;refine b9 (fun t st=>∃ (e:Nat) (c0 c1:List DV),st=GC a n s keys ks ks.length (0 + (bf keys).length) e (ks.length - 1 - e) c0 c1/\c0=(dRws (rvG dr L e)).flatten/\c1=(bf (rvG dw keys e)).flatten/\2 * e<=ks.length/\t=ks.length - 2 * e) ks.length (GC a n s keys ks ks.length (0 + (bf keys).length) 0 (ks.length - 1) cs (bf keys).flatten) ?_ ⟨0,_,_,rfl,by rw [xT];exact bP,by rw [xT],by omega,by omega⟩ ?_
   ·exact (jy 3 (GK Ih) (iG Ih))
   rintro t st ⟨e,c0,c1,rfl,hc0,hc1,EM,rfl⟩;refine br ?_ ?_<;>intro Ow
   rotate_left
   ·have bO:ks.length<=2 * e + 1:=by have:=of_decide_eq_false Ow;omega
    rw [rvG_end dr L e (by omega) (by omega)] at hc0;rw [rvG_end dw keys e (by omega) (by omega)] at hc1;subst hc0 hc1;exact ⟨rfl,rfl,rfl,rfl,trivial⟩
   have av:2 * e + 1 < ks.length:=by have:=of_decide_eq_true Ow;omega
   obtain ⟨hA,hB⟩:=GA dr L e (by omega);obtain ⟨UJ,UK⟩:=GA dw keys e (by omega);obtain ⟨x,hx⟩:∃ x,L[L.length - 1 - e]? = some x:=⟨_,gE (by omega)⟩;obtain ⟨y,hy⟩:∃ y,L[e]? = some y:=⟨_,gE (by omega)⟩;obtain ⟨u,hu⟩:∃ u,keys[keys.length - 1 - e]? = some u:=⟨_,gE (by omega)⟩;obtain ⟨v,hv⟩:∃ v,keys[e]? = some v:=⟨_,gE (by omega)⟩;have SX:=xU dr L e (by omega) hx hy;have Pq:=xU dw keys e (by omega) hu hv;rw [hx] at hB;rw [hy] at hA;rw [hu] at UK;rw [hv] at UJ;have GS:=xV hB;have UL:=xV hA;have SY:=xW UK;have LP:=xW UJ;have J8:=qV dRw 6 mB (rvG dr L e) e x (by rw [jk];omega);have Ah:=qV dRw 6 mB ((rvG dr L e).set e x) (L.length - 1 - e) y (by rw [List.length_set,jk];omega);have ht1:=qV kj 2 oU (rvG dw keys e) e u (by rw [jk];omega);have yY:=qV kj 2 oU ((rvG dw keys e).set e u) (keys.length - 1 - e) v (by rw [List.length_set,jk];omega);rw [SX,<- J8,<- dR,<- dR,<- hc0] at Ah;rw [Pq,<- ht1] at yY;rw [<- hc0] at GS UL;rw [<- hc1] at SY LP;have yY:_=(bf (rvG dw keys (e + 1))).flatten:=yY;have SZ:((rvG dw keys e).map kj).flatten=c1:=hc1.symm;rw [SZ] at yY;rw [Ql] at GS Ah;rw [rW] at SY yY;obtain ⟨xk,xa,xn,xs,xw,xv⟩:=x;obtain ⟨yk,ya,yn,ys,yw,yv⟩:=y;obtain ⟨us,ua⟩:=u;obtain ⟨vs,va⟩:=v;refine drawG_2 (fun i j=>(Nat.beq i 17 && !(Nat.beq j 4)) || Nat.beq i 19) (.op 0 (.op 1 (.op 2 (.op 3 (.op 4 (.op 5 (.op 6 (.op 7 (.op 8 (.op 9 (.op 10 (.op 11 (.op 12 (.op 13 (.op 14 (.op 15 (.op 16 (.ev 17 (.op 18 (.ev 19 .fin .stop)) .stop)))))))))))))))))) mo (by decide +kernel) (fun Ep ap wp S0=>⟨fun j w'=>match Nat.beq j 4 with | true=>CC Ep [dRw (.mk 5 a n s keys ks),rL,uO 5 a n s (nJ (0 + (bf keys).length) 1) (nJ ks.length 0)] wp w' | false=>w'=wp,?_⟩);refine fU S0 rfl rfl rfl rfl rfl (fun bp0 UM=>?_);refine og UM rfl UM.rl rfl rfl rfl rfl (fun bp1 x6=>?_);refine fU x6 rfl rfl rfl rfl rfl (fun bp2 GN=>?_);refine fU GN rfl rfl rfl rfl rfl (fun bp3 UN=>?_);refine og UN rfl (uD UN S0.env.em (fun w' h=>h)) (show CC _ _ _ _ from ⟨fun _ _ _ _ _ _=>rfl,S0.env.sub⟩) rfl rfl rfl (fun bp4 hp4=>?_);refine fU hp4 rfl rfl rfl rfl rfl (fun bp5 hp5=>?_);refine fU hp5 rfl rfl rfl rfl rfl (fun bp6 UO=>?_);refine og UO rfl UO.rl rfl rfl rfl rfl (fun bp7 hp7=>?_);refine fU hp7 rfl rfl rfl rfl rfl (fun bp8 hp8=>?_);refine Bm (kt:=0) hp8 rfl rfl ⟨rfl,rfl,rfl⟩ ⟨rfl,rfl,rfl⟩ rfl rfl rfl rfl rfl rfl (nk _) ⟨by omega,by omega⟩ GS (fun _ h=>h) rfl (fun bp10 S1=>?_);refine fU S1 rfl rfl rfl rfl rfl (fun bp11 Pr=>?_);refine og Pr rfl Pr.rl rfl rfl rfl rfl (fun bp12 S2=>?_);refine fU S2 rfl rfl rfl rfl rfl (fun bp13 OT=>?_);refine Bm (kt:=0) OT rfl rfl ⟨rfl,rfl,rfl⟩ ⟨rfl,rfl,rfl⟩ rfl rfl rfl rfl rfl rfl (nk _) ⟨by omega,by omega⟩ UL (fun _ h=>h) rfl (fun bp15 S3=>?_);refine Bn (kt:=0) S3 rfl rfl ⟨rfl,rfl,rfl⟩ ⟨rfl,rfl,rfl⟩ rfl rfl rfl rfl rfl rfl (Nat.succ_pos 5) rfl rfl rfl (nk _) ⟨by omega,by omega⟩ (fun bp17 Fp17 vp17 Ps S4=>⟨fun j hj _=>?_,?_⟩)
   ·cases hb:Nat.beq j 4 with
    | true=>exact Ps
    | false=>rw [hb] at hj;cases hj
   refine Bn (kt:=0) S4 rfl rfl ⟨rfl,rfl,rfl⟩ ⟨rfl,rfl,rfl⟩ rfl rfl rfl rfl rfl rfl (Nat.succ_pos 5) rfl rfl rfl (nk _) ⟨by omega,by omega⟩ (fun S5 S6 S7 UP S8=>⟨fun j hj _=>?_,?_⟩)
   ·simp at hj
   refine go_sound 4000 _ _ ?_ S6 S5 S7 S8;refine drawG_2 (fun i j=>(Nat.beq i 17 && !(Nat.beq j 4)) || Nat.beq i 19) (.op 0 (.op 1 (.op 2 (.op 3 (.op 4 (.op 5 (.op 6 (.op 7 (.op 8 (.op 9 (.op 10 (.op 11 (.op 12 (.op 13 (.op 14 (.op 15 (.op 16 (.ev 17 (.op 18 (.ev 19 .fin .stop)) .stop)))))))))))))))))) mo (by decide +kernel) (fun Eq aq wq S9=>⟨fun j w'=>match Nat.beq j 4 with | true=>CC Eq [dRw (.mk 5 a n s keys ks),rL,uO 5 a n s (nJ (0 + (bf keys).length) 1) (nJ ks.length 0)] wq w' | false=>w'=wq,?_⟩);refine fU S9 rfl rfl rfl rfl rfl (fun bq0 rX=>?_);refine og rX rfl rX.rl rfl rfl rfl rfl (fun bq1 Lo=>?_);refine fU Lo rfl rfl rfl rfl rfl (fun bq2 gh=>?_);refine fU gh rfl rfl rfl rfl rfl (fun bq3 x4=>?_);refine og x4 rfl (uD x4 S9.env.em (fun w' h=>h)) (show CC _ _ _ _ from ⟨fun _ _ _ _ _ _=>rfl,S9.env.sub⟩) rfl rfl rfl (fun bq4 hq4=>?_);refine fU hq4 rfl rfl rfl rfl rfl (fun bq5 hq5=>?_);refine fU hq5 rfl rfl rfl rfl rfl (fun bq6 UQ=>?_);refine og UQ rfl UQ.rl rfl rfl rfl rfl (fun bq7 hq7=>?_);refine fU hq7 rfl rfl rfl rfl rfl (fun bq8 hq8=>?_);refine Bm (kt:=1) hq8 rfl rfl ⟨rfl,rfl,rfl⟩ ⟨rfl,rfl,rfl⟩ rfl rfl rfl rfl rfl rfl (nk _) ⟨by omega,by omega⟩ SY (fun _ h=>h) rfl (fun bq10 Ta=>?_);refine fU Ta rfl rfl rfl rfl rfl (fun bq11 Pt=>?_);refine og Pt rfl Pt.rl rfl rfl rfl rfl (fun bq12 Tb=>?_);refine fU Tb rfl rfl rfl rfl rfl (fun bq13 Ii=>?_);refine Bm (kt:=1) Ii rfl rfl ⟨rfl,rfl,rfl⟩ ⟨rfl,rfl,rfl⟩ rfl rfl rfl rfl rfl rfl (nk _) ⟨by omega,by omega⟩ LP (fun _ h=>h) rfl (fun bq15 Tc=>?_);refine Bn (kt:=1) Tc rfl rfl ⟨rfl,rfl,rfl⟩ ⟨rfl,rfl,rfl⟩ rfl rfl rfl rfl rfl rfl (Nat.succ_pos 1) rfl rfl rfl (nk _) ⟨by omega,by omega⟩ (fun bq17 Fq17 vq17 Pu Td=>⟨fun j hj _=>?_,?_⟩)
   ·cases hb:Nat.beq j 4 with
    | true=>exact Pu
    | false=>rw [hb] at hj;cases hj
   refine Bn (kt:=1) Td rfl rfl ⟨rfl,rfl,rfl⟩ ⟨rfl,rfl,rfl⟩ rfl rfl rfl rfl rfl rfl (Nat.succ_pos 1) rfl rfl rfl (nk _) ⟨by omega,by omega⟩ (fun Te Tf Tg UR Th=>⟨fun j hj _=>?_,?_⟩)
   ·simp at hj
   refine go_sound 4000 _ _ ?_ Tf Te Tg Th
   have hw1:IntKind.i64.wrap (((ks.length - 1 - e:Nat):Int) - 1)=((ks.length - 1 - (e + 1):Nat):Int):=by
    rw [wrap64 (by omega) (by omega)];omega
   have qX:IntKind.i64.wrap ((e:Int) + 1)=((e + 1:Nat):Int):=by
    rw [wrap64 (by omega) (by omega)];omega
   exact ⟨GC a n s keys ks ks.length (0 + (bf keys).length) (e + 1) (ks.length - 1 - (e + 1)) ((c0.take (e * 6) ++ dRw (.mk xk xa xn xs xw xv) ++ c0.drop (e * 6 + 6)).take ((ks.length - 1 - e) * 6) ++ dRw (.mk yk ya yn ys yw yv) ++ (c0.take (e * 6) ++ dRw (.mk xk xa xn xs xw xv) ++ c0.drop (e * 6 + 6)).drop ((ks.length - 1 - e) * 6 + 6)) ((c1.take (e * 2) ++ kj ⟨us,ua⟩ ++ c1.drop (e * 2 + 2)).take ((ks.length - 1 - e) * 2) ++ kj ⟨vs,va⟩ ++ (c1.take (e * 2) ++ kj ⟨us,ua⟩ ++ c1.drop (e * 2 + 2)).drop ((ks.length - 1 - e) * 2 + 2)),(jy 3 (Hh qX hw1) (q5 qX hw1)),ks.length - 2 * (e + 1),by omega,e + 1,_,_,rfl,Ah,yY,by omega,rfl⟩
  ·rintro ⟨sl,bx,tk⟩ ⟨h1,h2,h3⟩;simp only at h1 h2 h3;subst h1 h2;have Ql:(rtnRs ks).length=ks.length:=kD ks
   refine ⟨⟨[aS 2 1,aS 3 2],[dRw (.mk 5 a n s keys ks),rL,uO 5 a n s (.sl 2 (bf keys.reverse) none) (.sl 6 (dRws (rtnRs ks).reverse) none)],[⟨ks.length,70,6,none⟩,⟨0 + (bf keys).length,34,2,none⟩]⟩,Wk.trans (yZ (st:=⟨sl,[dRw (.mk 5 a n s keys ks),rL,uO 5 a n s (nJ (0 + (bf keys).length) 1) (nJ ks.length 0)],[⟨ks.length,70,6,some (dRws (rtnRs ks).reverse).flatten⟩,⟨0 + (bf keys).length,34,2,some (bf keys.reverse).flatten⟩]⟩) (j:=2) (o:=5) (k:=0) (ns:=dRws (rtnRs ks).reverse) rfl (fun x hx=>by
    rw [dR] at hx;obtain ⟨y,_,rfl⟩:=List.mem_map.1 hx
    exact mB y) (by rw [fB,List.length_reverse,Ql]) rfl rfl (nk _))
    (Wk.trans (yZ (st:=⟨sl,[dRw (.mk 5 a n s keys ks),rL,uO 5 a n s (nJ (0 + (bf keys).length) 1) (.sl 6 (dRws (rtnRs ks).reverse) none)],[⟨ks.length,70,6,none⟩,⟨0 + (bf keys).length,34,2,some (bf keys.reverse).flatten⟩]⟩) (j:=2) (o:=4) (k:=1) (ns:=bf keys.reverse) rfl (fun x hx=>by
    obtain ⟨y,_,rfl⟩:=List.mem_map.1 hx
    exact oU y) (by rw [aE,List.length_reverse,wS];omega) rfl rfl (nk _)) (IK h3)),?_⟩
   exact ⟨_,ax,rfl⟩
end Go.Proofs.YtfdedoiiahbnnaaGreat
set_option maxRecDepth 100000
namespace Go.Proofs.YtfdedoiiahbnnaaGreat
open Go Go.RowKit Dv Go.Proofs.Tryz
abbrev LY (a n:Int) (s:ByteArray):St:=⟨[aS 2 1,aS 3 2,aA 5 0,aA 6 (-1)],[dRw (.mk 5 a n s [] []),rL,uO 5 a n s (.sl 2 [] (some 1)) (.sl 6 [] (some 0))],[⟨0,70,6,none⟩,⟨0,34,2,none⟩]⟩
theorem z7 (a n:Int) (s:ByteArray) :
  bh prog 32 [.agg (dRw (.mk 5 a n s [] []))] (.agg (dRw (.mk 5 a n s [] []))):=by
 refine eG 100 [.cell 2 70] func32 rfl ntmps32 rfl fun _ _ _ _=>?_;refine lI (fun j st=>st=Bj 5 a n s [] [] [] 0 0/\j=0) ⟨rfl,rfl⟩ (fj 3 ⟨0,70,6,none⟩ rfl rfl rfl BC rfl rfl tU) ?_;rintro j st ⟨rfl,rfl⟩;refine ⟨⟨by decide,by decide⟩,?_⟩;refine dI ?_;refine lI (fun j st=>st=LY a n s/\j=0) ⟨rfl,rfl⟩ (cL tU) ?_;rintro j st ⟨rfl,rfl⟩;exact ⟨_,ax,rfl⟩
theorem oh:∀ (m:Nat) (r:Rw),oR r<=m->oR r<=1099511627776->bh prog 32 [.agg (dRw r)] (.agg (dRw (rtnR r)))
 | 0,v,h,_=>by have:=uT v;omega
 | m + 1,.mk k a n s keys ks,h,hb=>by
  have ih:=oh m;have mV:=qL ks;have Mk:=bQ keys;rw [oR] at h hb
  have ih:∀ x∈ks,bh prog 32 [.agg (dRw x)] (.agg (dRw (rtnR x))):=fun x hx=>by
   have:=qK hx;exact ih x (by omega) (by omega)
  by_cases hc:k=5/\keys.length=ks.length
  ·obtain ⟨rfl,hc⟩:=hc;by_cases hn:ks=[]
   ·subst hn;have:keys=[]:=List.length_eq_zero_iff.1 hc;subst this;exact z7 a n s
   ·exact z6 a n s keys ks hc hn (by omega) ih
  ·exact u0 k a n s keys ks hc (by omega) (by omega) ih
mutual
theorem Bo:∀ r:Rw,RwB r->RwB (rtnR r)
 | .mk k a n s keys ks,h=>by
  rw [RwB] at h;rw [rtnR];have:=xY ks h.2;split
  ·rw [RwB];refine ⟨by simpa using h.1,?_⟩;generalize rtnRs ks=L at this
   have key:∀ L:List Rw,RwBs L↔∀ x∈L,RwB x:=fun L=>by
    induction L with
    | nil=>simp [RwBs]
    | cons y l ih=>rw [RwBs,ih];simp
   rw [key] at this ⊢;exact fun x hx=>this x (sU hx)
  ·rw [RwB];exact ⟨h.1,this⟩
theorem xY:∀ l:List Rw,RwBs l->RwBs (rtnRs l)
 | [],_=>trivial
 | v :: r,h=>by
  rw [RwBs] at h;rw [rtnRs,RwBs];exact ⟨Bo v h.1,xY r h.2⟩
end
abbrev LZ (a:Val) (e:Nat):St:=⟨[aS 2 0,aS 3 1,aA 5 e],[lr a,lr a],[]⟩
theorem oi:∀ (m:Nat) (a:Val),a.wt<=m->a.wt<=1099511627776->bh prog 29 [.agg (lr a),.agg (lr a)] (.v (.bool true))
 | 0,v,h,_=>by have:=v.gA;omega
 | m + 1,.mk k n s ks,h,hb=>by
  have ih:=oi m;rw [Val.wt] at h hb
  have hs:∀ x∈ks,bh prog 29 [.agg (lr x),.agg (lr x)] (.v (.bool true)):=fun x hx=>by
   have:=xu hx;exact ih x (by omega) (by omega)
  have hl:=xx ks;have sn:=iy ks;refine eG 53 [.tmp 4] func29 rfl ntmps29 rfl fun _ _ _ _=>?_;refine br (fun c=>absurd c (by simp [aF])) (fun _=>?_);refine lJ (fun e=>LZ (.mk k n s ks) e) ks.length (cL tU) ?_;intro e he;refine br ?_ ?_<;>intro hL
  ·have av:e < ks.length:=sV sn hL;obtain ⟨x,hx⟩:=gX av;have QK:=hs x (mG hx);obtain ⟨xk,xn,xs,xl⟩:=x;refine dI ?_;refine iX (tg hx) ?_;refine iX (tg hx) ?_;refine cD D0 QK ?_;exact rE ⟨_,by omega,e + 1,rfl,by omega,rfl⟩ (cL (iG (bV av (by omega))))
  ·exact (rfl:_=_)
set_option maxHeartbeats 8000000 in
theorem order24_law (S:Sch) (hS:S.wt<=1099511627776) (_:N8 S) (r:Rw) (hr0:oR r<=1099511627776):bh prog 8 [.agg (yO S),.agg (dRw r)] (.v (.bool true)):=by
 have ga:=uF S hS;have hb:=(qz S hS).mono (Ψ:=fun r _ _=>zy S r) fun _ _ _ h=>tf hS h;have G9:=od _ r (bd _) hr0;have Qm:=F9 r hr0;have ht:=oh _ r (bd _) hr0;have hTB:=Bo r Qm;have lB:=fun ND=>JY (ND:=ND) _ r (bd _);generalize ((jj r:Nat):Int)=cr at G9;generalize rK r=dr at G9;refine eG 99 [.tmp 4] func8 rfl ntmps8 rfl fun _ _ _ _=>?_;obtain ⟨ae,order,types,⟨rh,rp⟩⟩:=S;obtain ⟨rk,ra,rn,rs,rq,rl⟩:=r;refine cP M0 G9 ?_;refine br ?_ ?_<;>intro c
 rotate_left
 ·refine cP DZ eP ?_;exact (rfl:_=_)
 refine gW QY rfl ga ax (fun r hr=>?_);obtain ⟨g,rfl⟩:=hr
 cases g with
 | true=>
  refine cP DZ eP ?_;exact (rfl:_=_)
 | false=>
 refine gW MZ rfl hb ax (fun r hr=>?_);rcases hr with ⟨hr,rfl⟩ | ⟨_,PC,hP,rfl⟩
 ·generalize ln ⟨ae,order,types,.mk rh rp⟩=R at hr ⊢;obtain ⟨R1,R2⟩:=R;simp only at hr;refine br (fun _=>?_) (fun g=>absurd g (by simp [hr]));refine cP DZ eP ?_;exact (rfl:_=_)
 have nZ:=hP.root;have fM:=hP.ok;have hc1:=eO hP _ (Rw.mk rk ra rn rs rq rl) (bd _) Qm (dm ⟨ae,order,types,.mk rh rp⟩);have jD:=eO hP _ (rtnR (Rw.mk rk ra rn rs rq rl)) (bd _) hTB (dm ⟨ae,order,types,.mk rh rp⟩);have yd:=eO hP _ (Rw.mk rk 9 rn rs rq rl) (bd _) (by rw [RwB] at Qm ⊢;exact Qm) (dm ⟨ae,order,types,.mk rh rp⟩);have OE:=lB (cu ⟨ae,order,types,.mk rh rp⟩) (dm ⟨ae,order,types,.mk rh rp⟩);have key:=C8 fM rk ra 9 rn rs rq rl (dm ⟨ae,order,types,.mk rh rp⟩);simp only at key;generalize dm ⟨ae,order,types,.mk rh rp⟩=rt at *;generalize ckV (cu ⟨ae,order,types,.mk rh rp⟩) (.mk rk ra rn rs rq rl) rt=X at hc1 OE key;generalize ckV (cu ⟨ae,order,types,.mk rh rp⟩) (rtnR (.mk rk ra rn rs rq rl)) rt=Y at jD key;generalize ckV (cu ⟨ae,order,types,.mk rh rp⟩) (.mk rk 9 rn rs rq rl) rt=Z at yd key;obtain ⟨⟨Xk,Xn,Xs,Xl⟩,Xe,Xa⟩:=X;obtain ⟨Yv,Ye,Ya⟩:=Y;obtain ⟨Zv,Ze,Za⟩:=Z;obtain ⟨k1,k2,k3,k4,k5⟩:=key;simp only at k1 k2 k3 k4 k5 OE;subst k2 k4 k3;have Kn:=oi _ (.mk Xk Xn Xs Xl) (bd _) (by omega);generalize rtnR (Rw.mk rk ra rn rs rq rl)=T at ht jD;obtain ⟨tk,ta,tn,ts,tq,tl⟩:=T;apply gK (.op 0 (.op 1 (.op 3 (.ev 2 (.ev 4 (.op 5 (.op 6 (.op 7 (.ev 8 (.ev 9 (.ev 10 (.ev 11 .fin .stop) .stop) .stop) (.ev 9 (.ev 8 (.ev 10 (.ev 11 .fin .stop) .stop) .stop) .stop))))) (.ev 8 (.ev 4 (.op 5 (.op 6 (.op 7 (.ev 9 (.ev 10 (.ev 11 .fin .stop) .stop) .stop)))) (.ev 9 (.ev 4 (.op 5 (.op 6 (.op 7 (.ev 10 (.ev 11 .fin .stop) .stop)))) .stop) .stop)) (.ev 9 (.ev 4 (.op 5 (.op 6 (.op 7 (.ev 8 (.ev 10 (.ev 11 .fin .stop) .stop) .stop)))) (.ev 8 (.ev 4 (.op 5 (.op 6 (.op 7 (.ev 10 (.ev 11 .fin .stop) .stop)))) .stop) .stop)) .stop))) (.ev 8 (.ev 2 (.ev 4 (.op 5 (.op 6 (.op 7 (.ev 9 (.ev 10 (.ev 11 .fin .stop) .stop) .stop)))) (.ev 9 (.ev 4 (.op 5 (.op 6 (.op 7 (.ev 10 (.ev 11 .fin .stop) .stop)))) .stop) .stop)) (.ev 9 (.ev 2 (.ev 4 (.op 5 (.op 6 (.op 7 (.ev 10 (.ev 11 .fin .stop) .stop)))) .stop) .stop) .stop)) (.ev 9 (.ev 2 (.ev 4 (.op 5 (.op 6 (.op 7 (.ev 8 (.ev 10 (.ev 11 .fin .stop) .stop) .stop)))) (.ev 8 (.ev 4 (.op 5 (.op 6 (.op 7 (.ev 10 (.ev 11 .fin .stop) .stop)))) .stop) .stop)) (.ev 8 (.ev 2 (.ev 4 (.op 5 (.op 6 (.op 7 (.ev 10 (.ev 11 .fin .stop) .stop)))) .stop) .stop) .stop)) .stop)))))) 3 4 mo (by decide +kernel);·repeat' (first | refine cD Hv nZ ?_ | refine cD vV hc1 ?_ | exact Or.inl (Or.inl rfl) | exact Or.inl my | exact CK | exact trivial | exact Or.inl (Or.inl rfl) | exact Or.inl my | exact zu | refine ⟨?_,?_⟩)
 ·exact (rfl:_=_)
 apply gK (.op 0 (.op 1 (.op 3 (.ev 2 (.ev 4 (.ev 5 (.op 6 (.op 7 (.op 8 (.ev 9 (.ev 10 (.ev 11 (.ev 12 .fin .stop) .stop) .stop) (.ev 10 (.ev 9 (.ev 11 (.ev 12 .fin .stop) .stop) .stop) .stop))))) (.ev 9 (.ev 5 (.op 6 (.op 7 (.op 8 (.ev 10 (.ev 11 (.ev 12 .fin .stop) .stop) .stop)))) (.ev 10 (.ev 5 (.op 6 (.op 7 (.op 8 (.ev 11 (.ev 12 .fin .stop) .stop)))) .stop) .stop)) (.ev 10 (.ev 5 (.op 6 (.op 7 (.op 8 (.ev 9 (.ev 11 (.ev 12 .fin .stop) .stop) .stop)))) (.ev 9 (.ev 5 (.op 6 (.op 7 (.op 8 (.ev 11 (.ev 12 .fin .stop) .stop)))) .stop) .stop)) .stop))) (.ev 9 (.ev 4 (.ev 5 (.op 6 (.op 7 (.op 8 (.ev 10 (.ev 11 (.ev 12 .fin .stop) .stop) .stop)))) (.ev 10 (.ev 5 (.op 6 (.op 7 (.op 8 (.ev 11 (.ev 12 .fin .stop) .stop)))) .stop) .stop)) (.ev 10 (.ev 4 (.ev 5 (.op 6 (.op 7 (.op 8 (.ev 11 (.ev 12 .fin .stop) .stop)))) .stop) .stop) .stop)) (.ev 10 (.ev 4 (.ev 5 (.op 6 (.op 7 (.op 8 (.ev 9 (.ev 11 (.ev 12 .fin .stop) .stop) .stop)))) (.ev 9 (.ev 5 (.op 6 (.op 7 (.op 8 (.ev 11 (.ev 12 .fin .stop) .stop)))) .stop) .stop)) (.ev 9 (.ev 4 (.ev 5 (.op 6 (.op 7 (.op 8 (.ev 11 (.ev 12 .fin .stop) .stop)))) .stop) .stop) .stop)) .stop))) (.ev 9 (.ev 2 (.ev 4 (.ev 5 (.op 6 (.op 7 (.op 8 (.ev 10 (.ev 11 (.ev 12 .fin .stop) .stop) .stop)))) (.ev 10 (.ev 5 (.op 6 (.op 7 (.op 8 (.ev 11 (.ev 12 .fin .stop) .stop)))) .stop) .stop)) (.ev 10 (.ev 4 (.ev 5 (.op 6 (.op 7 (.op 8 (.ev 11 (.ev 12 .fin .stop) .stop)))) .stop) .stop) .stop)) (.ev 10 (.ev 2 (.ev 4 (.ev 5 (.op 6 (.op 7 (.op 8 (.ev 11 (.ev 12 .fin .stop) .stop)))) .stop) .stop) .stop) .stop)) (.ev 10 (.ev 2 (.ev 4 (.ev 5 (.op 6 (.op 7 (.op 8 (.ev 9 (.ev 11 (.ev 12 .fin .stop) .stop) .stop)))) (.ev 9 (.ev 5 (.op 6 (.op 7 (.op 8 (.ev 11 (.ev 12 .fin .stop) .stop)))) .stop) .stop)) (.ev 9 (.ev 4 (.ev 5 (.op 6 (.op 7 (.op 8 (.ev 11 (.ev 12 .fin .stop) .stop)))) .stop) .stop) .stop)) (.ev 9 (.ev 2 (.ev 4 (.ev 5 (.op 6 (.op 7 (.op 8 (.ev 11 (.ev 12 .fin .stop) .stop)))) .stop) .stop) .stop) .stop)) .stop)))))) 5 6 mo (by decide +kernel);·repeat' (first | refine cD Hv nZ ?_ | refine cD KQ ht ?_ | refine cD vV jD ?_ | exact Or.inl (Or.inl rfl) | exact Or.inl my | exact CK | exact trivial | exact Or.inl (Or.inl rfl) | exact Or.inl my | exact zu | refine ⟨?_,?_⟩)
 ·exact (rfl:_=_)
 apply gK (.op 0 (.op 1 (.op 3 (.ev 2 (.ev 4 (.op 5 (.op 6 (.op 7 (.ev 8 (.ev 9 (.ev 10 (.ev 11 .fin .stop) .stop) .stop) (.ev 9 (.ev 8 (.ev 10 (.ev 11 .fin .stop) .stop) .stop) .stop))))) (.ev 8 (.ev 4 (.op 5 (.op 6 (.op 7 (.ev 9 (.ev 10 (.ev 11 .fin .stop) .stop) .stop)))) (.ev 9 (.ev 4 (.op 5 (.op 6 (.op 7 (.ev 10 (.ev 11 .fin .stop) .stop)))) .stop) .stop)) (.ev 9 (.ev 4 (.op 5 (.op 6 (.op 7 (.ev 8 (.ev 10 (.ev 11 .fin .stop) .stop) .stop)))) (.ev 8 (.ev 4 (.op 5 (.op 6 (.op 7 (.ev 10 (.ev 11 .fin .stop) .stop)))) .stop) .stop)) .stop))) (.ev 8 (.ev 2 (.ev 4 (.op 5 (.op 6 (.op 7 (.ev 9 (.ev 10 (.ev 11 .fin .stop) .stop) .stop)))) (.ev 9 (.ev 4 (.op 5 (.op 6 (.op 7 (.ev 10 (.ev 11 .fin .stop) .stop)))) .stop) .stop)) (.ev 9 (.ev 2 (.ev 4 (.op 5 (.op 6 (.op 7 (.ev 10 (.ev 11 .fin .stop) .stop)))) .stop) .stop) .stop)) (.ev 9 (.ev 2 (.ev 4 (.op 5 (.op 6 (.op 7 (.ev 8 (.ev 10 (.ev 11 .fin .stop) .stop) .stop)))) (.ev 8 (.ev 4 (.op 5 (.op 6 (.op 7 (.ev 10 (.ev 11 .fin .stop) .stop)))) .stop) .stop)) (.ev 8 (.ev 2 (.ev 4 (.op 5 (.op 6 (.op 7 (.ev 10 (.ev 11 .fin .stop) .stop)))) .stop) .stop) .stop)) .stop)))))) 7 8 mo (by decide +kernel);·repeat' (first | refine cD Hv nZ ?_ | refine cD vV yd ?_ | exact Or.inl (Or.inl rfl) | exact Or.inl my | exact CK | exact trivial | exact Or.inl (Or.inl rfl) | exact Or.inl my | exact zu | refine ⟨?_,?_⟩)
 ·exact (rfl:_=_)
 by_cases hX:Xe=0
 ·have hY:=k1.1 hX;have hk:0 < Xk:=k5 hX;clear k1 k5;subst hX hY
  try refine br (fun _=>?_) (fun g=>absurd g (by simp [pickB]))
  refine cP D0 Kn ?_
  try refine br (fun _=>?_) (fun g=>absurd g (by simp [pickB]))
  refine cP D0 Kn ?_;refine br (fun _=>?_) (fun g=>absurd g (by simp [pickB,hk]));refine cP DZ eP ?_;exact (rfl:_=_)
 ·have hY:¬ Ye=0:=fun h=>hX (k1.2 h);refine br (fun _=>?_) (fun g=>absurd g (by simp [pickB,hX,hY]));refine cP D0 Kn ?_
  try refine br (fun _=>?_) (fun g=>absurd g (by simp [pickB,hX,hY]))
  refine cP D0 Kn ?_;refine br (fun _=>?_) (fun g=>absurd g (by simp [pickB,hX]));refine cP DZ eP ?_;exact (rfl:_=_)
end Go.Proofs.YtfdedoiiahbnnaaGreat
