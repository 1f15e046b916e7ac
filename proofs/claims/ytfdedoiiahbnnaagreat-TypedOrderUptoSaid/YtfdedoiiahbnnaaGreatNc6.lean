/- Part 6 of the proof: Values as they are written, with their records the other way round: plain; Values as they are written, at another place: plain; The law's turned, where nothing changes places; Steps of a drawn region: elements of rows whose cells nobody else knows, read and written whole; The law's turned, where a record's keys change places; Rules for the evaluator: a region that draws its order; what each of its reads asks is told read by read; The law's turned, where a record's keys change places: the walk; The law's turned for every value; two equal values are the same; The law of order: the call returns true. No condition. -/
import Derived.Test.YtfdedoiiahbnnaaGreatNc4
import Derived.Test.YtfdedoiiahbnnaaGreatNc5
set_option linter.all false
set_option maxRecDepth 100000
namespace Go.Proofs.YtfdedoiiahbnnaaGreat
open Go Go.RowKit Dv Go.Proofs.Tryz
mutual
def rtnR:Rw->Rw
 | .mk k a n s keys ks=>if k=5/\keys.length=ks.length then .mk k a n s keys.reverse (rtnRs ks).reverse else .mk k a n s keys (rtnRs ks)
def rtnRs:List Rw->List Rw
 | []=>[]
 | r :: l=>rtnR r :: rtnRs l
end
theorem eA:∀ l:List Rw,rtnRs l=l.map rtnR
 | []=>rfl
 | r :: l=>by rw [rtnRs,eA l];all_goals rfl
theorem kC (l:List Rw):(rtnRs l).length=l.length:=by rw [eA,List.length_map]
section
variable {ND:List Nd} {d:Nd}
structure C3 (ND:List Nd) (d:Nd) (l:List Rw) (ws:List Wd) (acc:List (Option Val)):Prop where
 key:∀ (j:Nat) r w,l[j]? = some r->ws[j]? = some w->∃ c,mE d w.s=some c/\(acc.getD c none).isSome=false/\(ckV ND r (oB d c)).2.1=0
 inj:∀ (j j':Nat) w w' c,j < l.length->j' < l.length->ws[j]? = some w->ws[j']? = some w' -> mE d w.s=some c->mE d w'.s=some c->j=j'
def LW (ND:List Nd) (d:Nd) (l:List Rw) (ws:List Wd) (acc out:List (Option Val)):Prop:=
 out.length=acc.length/\(∀ (j:Nat) r w c,l[j]? = some r->ws[j]? = some w->mE d w.s=some c->c < acc.length->out[c]? = some (some (ckV ND r (oB d c)).1)) /\
  ∀ c:Nat,(∀ (j:Nat) r w,l[j]? = some r->ws[j]? = some w->mE d w.s≠some c)->out[c]? = acc[c]?
theorem j5:∀ {l:List Rw} {ws:List Wd} {acc:List (Option Val)},acc.length=d.aR.length->(ckK ND d l ws acc).2.1=0->(ckK ND d l ws acc).2.2=0/\C3 ND d l ws acc/\LW ND d l ws acc (ckK ND d l ws acc).1
 | [],ws,acc,_,h=>by
  have e:ckK ND d [] ws acc=(acc,0,0):=by cases ws<;>simp [ckK]
  rw [e];exact ⟨rfl,⟨fun j r w h=>by simp at h,fun j j' w w' c h=>by simp at h⟩,rfl,fun j r w c h=>by simp at h,fun c _=>rfl⟩
 | r :: l,[],acc,_,h=>by
  have e:ckK ND d (r :: l) [] acc=(acc,0,0):=by simp [ckK]
  rw [e];exact ⟨rfl,⟨fun j r w _ h=>by simp at h,fun j j' w w' c _ _ h=>by simp at h⟩,rfl,fun j r w c _ h=>by simp at h,fun c _=>rfl⟩
 | r :: l,w :: ws,acc,rj,h=>by
  rw [ckK] at h ⊢
  cases hc:mE d w.s with
  | none=>rw [hc] at h;simp at h
  | some c=>
   rw [hc] at h;simp only at h ⊢;by_cases h1:(acc.getD c none).isSome=true
   ·rw [aj h1] at h;simp at h
   rw [ah h1] at h ⊢;by_cases h2:(ckV ND r (oB d c)).2.1≠0
   ·rw [aj h2] at h;exact (h2 h).elim
   rw [ah h2] at h ⊢;have cC:c < acc.length:=by rw [rj];exact nD hc
   obtain ⟨g0,g1,g2,g3,g4⟩:=j5 (by rw [List.length_set];exact rj) h;rw [List.length_set] at g2
   have aY:∀ (j:Nat) r' w',l[j]? = some r' -> ws[j]? = some w' -> mE d w'.s≠some c:=fun j r' w' hr hw hec=>by
    obtain ⟨c',k1,k2,k3⟩:=g1.key j r' w' hr hw;rw [hec] at k1;cases k1;simp [jk,gl cC] at k2
   refine ⟨g0,⟨fun j r' w' hr hw=>?_,fun j j' w1 w2 c1 hj eP hw1 qW J2 EL=>?_⟩,g2,fun j r' w' c1 hr hw he av=>?_,fun c1 gP=>?_⟩
   ·cases j with
    | zero=>
     simp only [List.getElem?_cons_zero,oI] at hr hw;subst hr hw;exact ⟨c,hc,by simpa using h1,by simpa using h2⟩
    | succ j=>
     simp only [List.getElem?_cons_succ] at hr hw;obtain ⟨c',k1,k2,k3⟩:=g1.key j r' w' hr hw;refine ⟨c',k1,?_,k3⟩;by_cases nM:c'=c
     ·subst nM;simpa using h1
     ·rw [jk] at k2 ⊢
      rwa [List.getElem?_set_ne (fun h=>nM h.symm)] at k2
   ·have key:∀ (j:Nat) w2,j < l.length->ws[j]? = some w2->mE d w2.s≠some c:=fun j w2 hj hw=>by
     obtain ⟨r',eh⟩:∃ r',l[j]? = some r':=⟨_,gE hj⟩;exact aY j r' w2 eh hw
    cases j with
    | zero=>
     simp only [List.getElem?_cons_zero,oI] at hw1;subst hw1;rw [hc] at J2;cases J2
     cases j' with
     | zero=>rfl
     | succ j'=>exact (key j' w2 (sU eP) (sU qW) EL).elim
    | succ j=>
     cases j' with
     | zero=>
      simp only [List.getElem?_cons_zero,oI] at qW;subst qW;rw [hc] at EL;cases EL;exact (key j w1 (sU hj) (sU hw1) J2).elim
     | succ j'=>rw [g1.inj j j' w1 w2 c1 (sU hj) (sU eP) (sU hw1) (sU qW) J2 EL]
   ·cases j with
    | zero=>
     simp only [List.getElem?_cons_zero,oI] at hr hw;subst hr hw;rw [hc] at he;cases he;rw [g4 c aY,gl cC]
    | succ j=>
     simp only [List.getElem?_cons_succ] at hr hw;exact g3 j r' w' c1 hr hw he (by rw [List.length_set];exact av)
   ·have h0:=gP 0 r w rfl rfl;rw [hc] at h0;rw [g4 c1 fun j r' w' hr hw=>gP (j + 1) r' w' (sU hr) (sU hw),List.getElem?_set_ne (fun h=>h0 (by rw [h]))]
theorem zW:∀ {l:List Rw} {ws:List Wd} {acc:List (Option Val)},acc.length=d.aR.length->C3 ND d l ws acc->(ckK ND d l ws acc).2.1=0
 | [],ws,acc,_,_=>by cases ws<;>simp [ckK]
 | r :: l,[],acc,_,_=>by simp [ckK]
 | r :: l,w :: ws,acc,rj,h=>by
  obtain ⟨c,k1,k2,k3⟩:=h.key 0 r w rfl rfl;rw [ckK,k1];simp only;rw [ah (by rw [k2];simp),ah (by simp [k3])];refine zW (by rw [List.length_set];exact rj) ⟨fun j r' w' hr hw=>?_,fun j j' w1 w2 c1 hj eP hw1 qW J2 EL=>?_⟩
  ·obtain ⟨c',q1,q2,q3⟩:=h.key (j + 1) r' w' (sU hr) (sU hw)
   have nM:c' ≠ c:=fun nM=>by
    subst nM;have:=h.inj 0 (j + 1) w w' c' (by simp) (by have:=(gS hr).1;simp;omega) rfl (sU hw) k1 q1;omega
   refine ⟨c',q1,?_,q3⟩;rw [jk] at q2 ⊢
   rwa [List.getElem?_set_ne (fun h=>nM h.symm)]
  ·have:=h.inj (j + 1) (j' + 1) w1 w2 c1 (sU hj) (sU eP) (sU hw1) (sU qW) J2 EL;omega
theorem xQ {l:List Rw} {ws:List Wd} {acc:List (Option Val)} (hl:ws.length=l.length) (h:C3 ND d l ws acc):C3 ND d l.reverse ws.reverse acc:=by
 refine ⟨fun j r w hr hw=>?_,fun j j' w1 w2 c hj eP hw1 qW J2 EL=>?_⟩
 ·have hj:j < l.length:=by simpa using (gS hr).1
  rw [List.getElem?_reverse hj] at hr;rw [List.getElem?_reverse (by omega),hl] at hw;exact h.key _ r w hr hw
 ·rw [List.length_reverse] at hj eP;rw [List.getElem?_reverse (by omega),hl] at hw1 qW;have:=h.inj _ _ w1 w2 c (by omega) (by omega) hw1 qW J2 EL;omega
theorem Gv {l l':List Rw} {ws:List Wd} {acc out Po:List (Option Val)} (hl:ws.length=l.length) (R8:l'.length=l.length) (hv:∀ (j:Nat) r r' w c,l[j]? = some r->l'[j]? = some r' -> ws[j]? = some w->mE d w.s=some c->(ckV ND r' (oB d c)).1=(ckV ND r (oB d c)).1)
  (h:LW ND d l ws acc out) (h':LW ND d l'.reverse ws.reverse acc Po) (rj:acc.length=d.aR.length):Po=out:=by
 apply List.ext_getElem?;intro c;obtain ⟨a1,a2,a3⟩:=h;obtain ⟨b1,b2,b3⟩:=h';by_cases hc:∃ (j:Nat) (r:Rw) (w:Wd),l[j]? = some r/\ws[j]? = some w/\mE d w.s=some c
 ·obtain ⟨j,r,w,hr,hw,he⟩:=hc;have hj:=(gS hr).1;have cC:c < acc.length:=by rw [rj];exact nD he
  obtain ⟨r',eh⟩:∃ r',l'[j]? = some r':=⟨_,gE (by omega)⟩;rw [a2 j r w c hr hw he cC]
  have e1:l'.reverse[l.length - 1 - j]? = some r':=by
   rw [List.getElem?_reverse (by omega),R8,show l.length - 1 - (l.length - 1 - j)=j by omega];exact eh
  have e2:ws.reverse[l.length - 1 - j]? = some w:=by
   rw [List.getElem?_reverse (by omega),hl,show l.length - 1 - (l.length - 1 - j)=j by omega];exact hw
  rw [b2 _ r' w c e1 e2 he cC,hv j r r' w c hr eh hw he]
 ·rw [a3 c fun j r w hr hw he=>hc ⟨j,r,w,hr,hw,he⟩,b3 c fun j r w hr hw he=>?_];have hj:j < l'.length:=by simpa using (gS hr).1
  rw [List.getElem?_reverse (by omega),hl] at hw;obtain ⟨r0,hr0⟩:∃ r0,l[l.length - 1 - j]? = some r0:=⟨_,gE (by omega)⟩;exact hc ⟨_,r0,w,hr0,hw,he⟩
end
def Bh (a b:zA):Prop:=(a.2.1=0↔b.2.1=0)/\a.1=b.1
theorem xR {ND:List Nd}:∀ {l:List Rw} {i:Int} {acc:List Val},(ckL ND l i acc).2.1=0↔∀ r∈l,(ckV ND r i).2.1=0:=fun {l i acc}=>⟨fun h=>(qH h).1,fun h=>by rw [zB h]⟩
theorem qS {ND:List Nd} {k n:Int} {l:List Rw} {i:Int} (h:∀ r∈l,Bh (ckV ND (rtnR r) i) (ckV ND r i)):Bh (eL k n (ckL ND (rtnRs l) i [])) (eL k n (ckL ND l i [])):=by
 have hb:(ckL ND (rtnRs l) i []).2.1=0↔(ckL ND l i []).2.1=0:=by
  rw [xR,xR,eA];constructor
  ·intro g r hr;exact (h r hr).1.1 (g _ (List.mem_map.2 ⟨r,hr,rfl⟩))
  ·intro g r hr;obtain ⟨q,hq,rfl⟩:=List.mem_map.1 hr;exact (h q hq).1.2 (g q hq)
 by_cases h0:(ckL ND l i []).2.1=0
 ·have h1:=hb.2 h0;have e0:=(qH h0).2;have e1:=(qH h1).2;unfold eL;rw [e0,e1];simp only [ne_eq,not_true_eq_false,if_false];refine ⟨Iff.rfl,?_⟩;rw [eA,List.map_map];simp only [jy,List.nil_append];congr 1;exact List.map_congr_left fun r hr=>(h r hr).2
 ·have h1:=fun g=>h0 (hb.1 g);unfold eL;rw [aj h0,aj h1];exact ⟨⟨fun g=>(h1 g).elim,fun g=>(h0 g).elim⟩,rfl⟩
theorem tz {L:Nat} {ND:List Nd} (fL:∀ n∈ND,zu L ND.length n):∀ (m:Nat) (r:Rw),ji r<=m->∀ i,Bh (ckV ND (rtnR r) i) (ckV ND r i)
 | 0,r,h=>by have:=mr r;omega
 | m + 1,.mk k a n s keys ks,h=>fun i=>by
  rw [ji] at h;have ih:∀ r∈ks,∀ i,Bh (ckV ND (rtnR r) i) (ckV ND r i):=fun r hr=>tz fL m r (by have:=iy hr;omega);have Qi:=kC ks;rw [rtnR];by_cases hk:k=5/\keys.length=ks.length
  ·rw [aj hk,ckV,ckV]
   cases hd:gR ND i with
   | none=>exact ⟨Iff.rfl,rfl⟩
   | some d=>
    simp only [List.length_reverse,Qi];obtain ⟨rfl,mU⟩:=hk;by_cases h5:d.ai < 5
    ·rw [aj h5,aj h5];exact ⟨Iff.rfl,rfl⟩
    rw [ah h5,ah h5];by_cases F0:d.ai=5
    ·rw [aj F0,aj F0,aj (by decide),aj (by decide)];exact ⟨Iff.rfl,rfl⟩
    rw [ah F0,ah F0];by_cases h6:d.ai=6
    ·rw [aj h6,aj h6,ah (show ¬((5:Int)=1/\s=qG) from fun h=>absurd h.1 (by decide)),ah (show ¬((5:Int)=1/\s=qG) from fun h=>absurd h.1 (by decide)),aj (Or.inl (by decide)),aj (Or.inl (by decide))];exact ⟨Iff.rfl,rfl⟩
    rw [ah h6,ah h6];by_cases h7:d.ai=7
    ·rw [aj h7,aj h7,ah (by simp [mU]),ah (by simp [mU])];have rj:(List.replicate d.aR.length (none:Option Val)).length=d.aR.length:=List.length_replicate
     have hg:∀ (j:Nat) r r',ks[j]? = some r->(rtnRs ks)[j]? = some r' -> r'=rtnR r:=fun j r r' hr eh=>by
      rw [eA,List.getElem?_map,hr] at eh;exact (Option.some.inj eh).symm
     generalize List.replicate d.aR.length (none:Option Val)=acc at rj
     have LO:C3 ND d (rtnRs ks) keys acc↔C3 ND d ks keys acc:=by
      constructor
      ·intro g;refine ⟨fun j r w hr hw=>?_,fun j j' w w' c hj eP=>g.inj j j' w w' c (by omega) (by omega)⟩;obtain ⟨c,q1,q2,q3⟩:=g.key j (rtnR r) w (by rw [eA,List.getElem?_map,hr];rfl) hw;exact ⟨c,q1,q2,(ih r (mG hr) _).1.1 q3⟩
      ·intro g;refine ⟨fun j r' w eh hw=>?_,fun j j' w w' c hj eP=>g.inj j j' w w' c (by omega) (by omega)⟩;obtain ⟨r,hr⟩:∃ r,ks[j]? = some r:=⟨_,gE (by have:=(gS eh).1;omega)⟩;obtain rfl:=hg j r r' hr eh;obtain ⟨c,q1,q2,q3⟩:=g.key j r w hr hw;exact ⟨c,q1,q2,(ih r (mG hr) _).1.2 q3⟩
     have hb:(ckK ND d (rtnRs ks).reverse keys.reverse acc).2.1=0↔(ckK ND d ks keys acc).2.1=0:=by
      constructor
      ·intro g;have q:=(j5 rj g).2.1;have q:=xQ (by simp [Qi,mU]) q;rw [List.reverse_reverse,List.reverse_reverse] at q;exact zW rj (LO.1 q)
      ·intro g;exact zW rj (xQ (by omega) (LO.2 (j5 rj g).2.1))
     by_cases h0:(ckK ND d ks keys acc).2.1=0
     ·have h1:=hb.2 h0;obtain ⟨_,_,t0⟩:=j5 rj h0;obtain ⟨_,_,t1⟩:=j5 rj h1
      have he:=Gv (l':=rtnRs ks) mU Qi (fun j r r' w c hr eh hw he=>by
       rw [hg j r r' hr eh]
       exact (ih r (mG hr) _).2) t0 t1 rj
      unfold fB;rw [ah (show ¬((ckK ND d (rtnRs ks).reverse keys.reverse acc).2.1≠0) from fun g=>g h1),ah (show ¬((ckK ND d ks keys acc).2.1≠0) from fun g=>g h0),he];split
      ·exact ⟨Iff.rfl,rfl⟩
      ·exact ⟨Iff.rfl,rfl⟩
     ·have h1:=fun g=>h0 (hb.1 g);unfold fB;rw [aj h0,aj h1];exact ⟨⟨fun g=>(h1 g).elim,fun g=>(h0 g).elim⟩,rfl⟩
    rw [ah h7,ah h7,aj (by simp),aj (by simp)];exact ⟨Iff.rfl,rfl⟩
  ·rw [ah hk,ckV,ckV]
   cases hd:gR ND i with
   | none=>exact ⟨Iff.rfl,rfl⟩
   | some d=>
    simp only [Qi];by_cases h5:d.ai < 5
    ·rw [aj h5,aj h5];exact ⟨Iff.rfl,rfl⟩
    rw [ah h5,ah h5];by_cases F0:d.ai=5
    ·rw [aj F0,aj F0];split
     ·exact ⟨Iff.rfl,rfl⟩
     split
     ·exact ⟨Iff.rfl,rfl⟩
     ·exact qS fun r hr=>ih r hr _
    rw [ah F0,ah F0];by_cases h6:d.ai=6
    ·rw [aj h6,aj h6];split
     ·exact ⟨Iff.rfl,rfl⟩
     split
     ·exact ⟨Iff.rfl,rfl⟩
     ·exact qS fun r hr=>ih r hr _
    rw [ah h6,ah h6];by_cases h7:d.ai=7
    ·rw [aj h7,aj h7,aj (by by_cases h:k=5<;>simp_all),aj (by by_cases h:k=5<;>simp_all)];exact ⟨Iff.rfl,rfl⟩
    rw [ah h7,ah h7];split
    ·exact ⟨Iff.rfl,rfl⟩
    cases mE d s with
    | none=>exact ⟨Iff.rfl,rfl⟩
    | some c=>
     simp only
     cases d.aR[c]? with
     | none=>exact ⟨Iff.rfl,rfl⟩
     | some e=>
      simp only;split
      ·split<;>exact ⟨Iff.rfl,rfl⟩
      split
      ·exact ⟨Iff.rfl,rfl⟩
      ·exact qS fun r hr=>ih r hr _
def GS (x y:zA):Prop:=x.1=y.1/\x.2.1=y.2.1
theorem GS.rfl' (x:zA):GS x x:=⟨rfl,rfl⟩
theorem cA (e a b:Int):GS (bS e a) (bS e b):=⟨rfl,rfl⟩
theorem bu {p:Prop} [Decidable p] {x y x' y':zA} (h1:GS x x') (h2:GS y y'):GS (if p then x else y) (if p then x' else y'):=by
 split
 ·exact h1
 ·exact h2
theorem Gw (d:Nd) (k a b n:Int) (s:ByteArray):GS (ckLeaf d k a n s) (ckLeaf d k b n s):=by
 unfold ckLeaf;refine bu (bu (.rfl' _) (bu (.rfl' _) (cA _ _ _))) (bu (bu (cA _ _ _) (bu (cA _ _ _) (.rfl' _))) (bu (bu (cA _ _ _) (bu (cA _ _ _) (.rfl' _))) (bu (cA _ _ _) ?_)))
 cases cX d.af s with
 | none=>exact cA _ _ _
 | some i=>exact .rfl' _
theorem IH (a b:Int) (t:List (Option Val) × Int × Int):GS (fB a t) (fB b t):=by
 unfold fB;exact bu (.rfl' _) (bu (cA _ _ _) (.rfl' _))
theorem Gx (ND:List Nd) (k a b n:Int) (s:ByteArray) (keys:List Wd) (ks:List Rw) (i:Int):GS (ckV ND (.mk k a n s keys ks) i) (ckV ND (.mk k b n s keys ks) i):=by
 rw [ckV,ckV]
 cases gR ND i with
 | none=>exact .rfl' _
 | some d=>
  refine bu (Gw _ _ _ _ _ _) (bu (bu (cA _ _ _) (bu (cA _ _ _) (.rfl' _))) (bu (bu (.rfl' _) (bu (cA _ _ _) (.rfl' _))) (bu (bu (cA _ _ _) (IH _ _ _)) (bu (cA _ _ _) ?_))))
  cases mE d s with
  | none=>exact cA _ _ _
  | some c=>
   show GS (match d.aR[c]? with | none=>_ | some e=>_) (match d.aR[c]? with | none=>_ | some e=>_)
   cases d.aR[c]? with
   | none=>exact cA _ _ _
   | some e=>exact bu (bu (.rfl' _) (cA _ _ _)) (bu (cA _ _ _) (.rfl' _))
theorem II {L:Nat} {ND:List Nd} (fL:∀ n∈ND,zu L ND.length n) (r:Rw) (i:Int) (h:(ckV ND r i).2.1=0):0 < (ckV ND r i).1.k:=by
 obtain ⟨d,hd⟩:=CF fL (A0 fL _ r (bd _) i h);have:=(fL d (mG (jh hd.ag).2)).k1;have:=hd.k;omega
theorem C7 {L:Nat} {ND:List Nd} (fL:∀ n∈ND,zu L ND.length n) (k a b n:Int) (s:ByteArray) (keys:List Wd) (ks:List Rw) (i:Int) :
  let r:=ckV ND (.mk k a n s keys ks) i
  let u:=ckV ND (rtnR (.mk k a n s keys ks)) i
  let x:=ckV ND (.mk k b n s keys ks) i
  (r.2.1=0↔u.2.1=0)/\r.1=u.1/\r.2.1=x.2.1/\r.1=x.1/\(r.2.1=0->0 < r.1.k):=by
 have h1:=tz fL _ (.mk k a n s keys ks) (bd _) i;have h2:=Gx ND k a b n s keys ks i;exact ⟨h1.1.symm,h1.2.symm,h2.2,h2.1,II fL _ i⟩
end Go.Proofs.YtfdedoiiahbnnaaGreat
set_option maxRecDepth 100000
namespace Go.Proofs.YtfdedoiiahbnnaaGreat
namespace Dv
open Go Go.RowKit
theorem Gy {X:Ctx} {c:Code} {id:Nat} {k:List It} {st:St} (J:St->Prop) (h:kH X c [.rP id,.mB J] st) (hJ:∀ s,J s->∃ s',Wk X s s' /\ go X 4000 k s'):kH X c (.rP id :: k) st:=fun E a w hr=>by
 have key:∀ a w,kq X [.mB J] .normal a w->kq X k .normal a w:=by
  rintro a w ⟨s,E,h1,h2⟩;obtain ⟨s',h3,h4⟩:=hJ s h2;obtain ⟨E',h5⟩:=h3 E a w h1;exact go_sound 4000 _ _ h4 E' a w h5
 refine wp_mono (h E a w hr) ?_;intro e a w hq
 cases e with
 | normal=>exact key a w hq
 | ret=>exact mT (.rP id :: k) a w hq
 | exit i=>
  simp only [kq] at hq ⊢;split at hq
  ·rename_i hi;rw [aj hi];exact key a w hq
  ·exact hq.elim
 | goto _=>exact hq.elim
 | panic _=>exact hq.elim
 | outgrown=>exact hq.elim
end Dv
open Go Go.RowKit Dv Go.Proofs.Tryz
theorem qT {ks:List Rw} {e:Nat} {x:Rw} (h:ks[e]? = some x):rtnRs (ks.take (e + 1))=rtnRs (ks.take e) ++ [rtnR x]:=by
 rw [eA,eA,List.take_add_one,h];simp
abbrev uO (k a n:Int) (s:ByteArray) (K V:DV):List DV:=[.v (.int .i64 k),.v (.int .i64 a),.v (.int .i64 n),.v (.string s),K,V]
abbrev rK:List DV:=[.v (.int .i64 0),.v (.int .i64 0),.v (.int .i64 0),.v (.string ⟨#[]⟩),.v (.slice none 0 0),.v (.slice none 0 0)]
abbrev Bi (k a n:Int) (s:ByteArray) (keys:List Wd) (ks L:List Rw) (q e:Nat):St:=⟨[aS 1 0,aS 2 1,aS 3 2,aA 4 e],[dRw (.mk k a n s keys ks),rK,uO k a n s (.v (.slice none 0 0)) (.sl 6 (dRws L) (some 0))],[⟨q,70,6,none⟩]⟩
theorem uZ (k a n:Int) (s:ByteArray) (keys:List Wd) (ks:List Rw) (gP:¬ (k=5/\keys.length=ks.length)) (mU:keys.length<=1099511627776) (hl:ks.length<=1099511627776) (ih:∀ x∈ks,bh prog 32 [.agg (dRw x)] (.agg (dRw (rtnR x)))) :
  bh prog 32 [.agg (dRw (.mk k a n s keys ks))] (.agg (dRw (rtnR (.mk k a n s keys ks)))):=by
 have An:=fA ks;have wR:=aE keys;rw [rtnR,ah gP];refine eG 100 [.cell 2 70] func32 rfl ntmps32 rfl fun _ _ _ _=>?_;refine lJ (fun e=>Bi k a n s keys ks (rtnRs (ks.take e)) e e) ks.length (fi 3 ⟨0,70,6,none⟩ rfl rfl rfl BB rfl rfl tT) ?_;intro e he;have Qj:(dRws (rtnRs (ks.take e))).length=e:=by rw [fA,kC,zLenT];omega
 refine br (fun av=>?_) (fun bO=>?_)
 ·have av:e < ks.length:=sV An av;obtain ⟨x,hx⟩:=gX av;have hc:=ih x (mG hx);have lz:=qT hx;generalize hX:rtnR x=X at hc lz;obtain ⟨xk,xa,xn,xs,xw,xv⟩:=X;obtain ⟨yk,ya,yn,ys,yw,yv⟩:=x;refine dS ?_;refine iX (jZ hx) ?_;refine cD KP hc ?_;refine ⟨Qj,⟨by rw [Qj];simp [maxLen];omega,by rw [Qj];simp;omega⟩,?_⟩;exact rE ⟨_,by omega,e + 1,rfl,by omega,rfl⟩ (jx 3 (by repeat' (first | exact rfl | exact au rfl | exact az (bV av (by omega)) | exact du ((nC _ _).trans (congrArg dRws lz.symm)) rfl | refine ⟨_,_,rfl,?_,?_⟩)) (by repeat' (first | exact trivial | exact au rfl | exact az (bV av (by omega)) | exact du ((nC _ _).trans (congrArg dRws lz.symm)) rfl | refine ⟨⟨_,rfl,?_⟩,?_⟩)))
 ·have bO:e=ks.length:=sW An bO;subst bO;rw [List.take_length];rw [List.take_length] at Qj;refine ⟨⟨by simp [maxLen,wR];omega,by simp [wR];omega⟩,?_⟩;by_cases hk:k=5
  ·subst hk;refine br (fun g=>?_) (fun _=>?_)
   ·exfalso;simp [pickB,wR,An] at g;exact gP ⟨rfl,by omega⟩
   exact ⟨_,ax,rfl⟩
  ·refine br (fun g=>absurd g (by simp [pickB,hk])) (fun _=>?_);exact ⟨_,ax,rfl⟩
end Go.Proofs.YtfdedoiiahbnnaaGreat
set_option maxRecDepth 100000
namespace Go.Proofs.YtfdedoiiahbnnaaGreat
open Go Go.RowKit Dv Go.Proofs.Tryz
section
variable {α:Type}
def rvG (d:α) (p:List α) (e:Nat):List α:=(List.range p.length).map fun i=>(if i < e∨p.length - e<=i then p[p.length - 1 - i]? else p[i]?).getD d
theorem jj (d:α) (p:List α) (e:Nat):(rvG d p e).length=p.length:=by simp [rvG]
theorem oS (d:α) (p:List α) (e i:Nat) (hi:i < p.length):(rvG d p e)[i]? = if i < e∨p.length - e<=i then p[p.length - 1 - i]? else p[i]?:=by grind [rvG]
theorem xS (d:α) (p:List α):rvG d p 0=p:=by
 apply List.ext_getElem?
 grind [oS,jj]
theorem rvG_end (d:α) (p:List α) (e:Nat) (h:p.length<=2 * e + 1) (he:e<=p.length):rvG d p e=p.reverse:=by
 apply List.ext_getElem?
 grind [oS,jj]
theorem xT (d:α) (p:List α) (e:Nat) (h:2 * e + 1 < p.length) {x y:α} (hx:p[p.length - 1 - e]? = some x) (hy:p[e]? = some y):((rvG d p e).set e x).set (p.length - 1 - e) y=rvG d p (e + 1):=by
 apply List.ext_getElem?
 grind [oS,jj]
theorem Gz (d:α) (p:List α) (e:Nat) (h:2 * e + 1 < p.length):(rvG d p e)[e]? = p[e]? /\ (rvG d p e)[p.length - 1 - e]? = p[p.length - 1 - e]?:=by grind [oS]
variable (f:α->List DV) (c:Nat) (hf:∀ x,(f x).length=c)
include hf
theorem qU:∀ (L:List α) (i:Nat) (x:α),i < L.length->(L.map f).flatten.take (i * c) ++ f x ++ (L.map f).flatten.drop (i * c + c)=((L.set i x).map f).flatten
 | [],i,x,h=>by simp at h
 | y :: L,0,x,_=>by
  simp only [List.map_cons,List.flatten_cons,Nat.zero_mul,List.take_zero,List.nil_append,Nat.zero_add,List.set_cons_zero];rw [List.drop_left' (hf y)]
 | y :: L,i + 1,x,h=>by
  have:=qU L i x (sU h);simp only [List.map_cons,List.flatten_cons,List.set_cons_succ];have e1:(i + 1) * c=(f y).length + i * c:=by rw [hf,Nat.add_mul];omega
  rw [e1,List.take_length_add_append,Nat.add_assoc,List.drop_length_add_append,<- this];simp only [List.append_assoc]
theorem zX:∀ {L:List α} {k:Nat} {x:α},L[k]? = some x->((L.map f).flatten.drop (k * c)).take c=f x
 | [],_,_,h=>by simp at h
 | y :: L,0,x,h=>by
  simp only [List.getElem?_cons_zero,oI] at h;subst h;simp only [List.map_cons,List.flatten_cons,Nat.zero_mul,List.drop_zero];rw [List.take_left' (hf y)]
 | y :: L,k + 1,x,h=>by
  have:=zX (L:=L) (k:=k) (x:=x) (sU h);simp only [List.map_cons,List.flatten_cons];have e1:(k + 1) * c=(f y).length + k * c:=by rw [hf,Nat.add_mul];omega
  rw [e1,List.drop_length_add_append];exact this
end
theorem mA:∀ x:Rw,(dRw x).length=6
 | .mk _ _ _ _ _ _=>rfl
theorem oT (x:Wd):(ki x).length=2:=rfl
theorem xU {L:List Rw} {k:Nat} {x:Rw} (h:L[k]? = some x):cellsT tt 70 (dRws L).flatten ((k:Int).toNat * 6)=some (.agg (dRw x)):=by
 have hf:∃ a b,tt.find 70=some ⟨6,true,a,b⟩:=⟨_,_,rfl⟩;obtain ⟨a,b,hf⟩:=hf;unfold cellsT;rw [hf];simp only;rw [jA,Dk,dQ,zX dRw 6 mA h,mA];rfl
theorem xV {L:List Wd} {k:Nat} {x:Wd} (h:L[k]? = some x):cellsT tt 34 (bf L).flatten ((k:Int).toNat * 2)=some (.agg (ki x)):=by
 have hf:∃ a b,tt.find 34=some ⟨2,true,a,b⟩:=⟨_,_,rfl⟩;obtain ⟨a,b,hf⟩:=hf;unfold cellsT;rw [hf];simp only;rw [jA,Dk,bf,zX ki 2 oT h];rfl
abbrev nI (n k:Nat):DV:=.sl 0 (List.replicate n []) (some k)
abbrev GA (a n:Int) (s:ByteArray) (keys:List Wd) (ks:List Rw) (q e:Nat) (cs:List DV):St:=⟨[aS 1 0,aS 2 1,aS 3 2,aA 4 e],[dRw (.mk 5 a n s keys ks),rK,uO 5 a n s (nI 0 1) (nI q 0)],[⟨q,70,6,some cs⟩,⟨0,34,2,some []⟩]⟩
abbrev GB (a n:Int) (s:ByteArray) (keys:List Wd) (ks:List Rw) (N N1 i j:Nat) (c0 c1:List DV):St:=⟨[aS 2 1,aS 3 2,aA 5 i,aA 6 j],[dRw (.mk 5 a n s keys ks),rK,uO 5 a n s (nI N1 1) (nI N 0)],[⟨N,70,6,some c0⟩,⟨N1,34,2,some c1⟩]⟩
end Go.Proofs.YtfdedoiiahbnnaaGreat
namespace Go.Proofs.YtfdedoiiahbnnaaGreat
namespace Dv
open Go Go.RowKit
section
variable {P:Program} {ops:Array Oper} {C:Nat->World->Prop} {Q:Act->World->Prop} {W:Nat->Nat->Bool}
def zY (ops:Array Oper) (W:Nat->Nat->Bool) (j i:Nat):Bool:=ij ops (fun k=>W k j) j i
def tA (ops:Array Oper) (W:Nat->Nat->Bool):Bool:=
 (List.range ops.size).all fun i=>(List.range ops.size).all fun j=>
  Nat.beq i j || ordB ops ops.size i j || ordB ops ops.size j i || (A1 ops i && A1 ops j) || (zY ops W j i && zY ops W i j)
def runS2 (P:Program) (ops:Array Oper) (W:Nat->Nat->Bool) (C:Nat->World->Prop) (Q:Act->World->Prop):de->Act->World->Prop
 | .fin,a,w=>Q a w
 | .op i t,a,w=>∃ o,ops[i]? = some o/\∃ v,Yl P ops (C i) o v a/\(isL o.op=true->C i w)/\runS2 P ops W C Q t (a.put o.dst v) w
 | .ev i t alt,a,w=>(∃ o,ops[i]? = some o/\cd P ops o a w fun a' w'=>(∀ j,W i j=false->C j w->C j w')/\runS2 P ops W C Q t a' w')/\runS2 P ops W C Q alt a w
 | .stop,_,_=>True
def Bj (P:Program) (ops:Array Oper) (W:Nat->Nat->Bool) (C:Nat->World->Prop) (Q:Act->World->Prop) (rem:List Nat) (a:Act) (w:World):Prop:=∃ T,chkA ops T rem none=true/\runS2 P ops W C Q T a w
theorem tB {rem:List Nat} (hP:tA ops W=true) (hc:Cl ops rem) {i j:Nat} (hi:rdy ops rem i=true) (hj:rdy ops rem j=true) (jr:i∈rem) (mD:j∈rem) (fK:i≠j) (Mz:A1 ops i=false∨A1 ops j=false):zY ops W j i=true:=by
 obtain ⟨o,ho,ha⟩:=dR hi;obtain ⟨o',rQ,ha'⟩:=dR hj;simp only [tA,List.all_eq_true,List.mem_range] at hP;have h1:=hP i (Array.getElem?_eq_some_iff.1 ho).1 j (Array.getElem?_eq_some_iff.1 rQ).1;simp only [Bool.or_eq_true,aP,Nat.beq_eq] at h1
 grind [zC]
theorem qV (dO:∀ (j:Nat) (o:Oper) cs b,ops[j]? = some o->o.op ≠ .select cs b) (hP:tA ops W=true) {i:Nat} {o:Oper} (hi:ops[i]? = some o) (hE:isE o.op=false) :
  ∀ (T:de) (rem:List Nat) (a:Act) (w:World),rem.Nodup->Cl ops rem->chkA ops T rem none=true->runS2 P ops W C Q T a w->i∈rem->rdy ops rem i=true ->
   ∃ v,Yl P ops (C i) o v a/\(isL o.op=true->C i w)/\Bj P ops W C Q (rem.erase i) (a.put o.dst v) w
 | .fin,rem,a,w,_,_,hc,_,jr,_=>by grind [chkA]
 | .stop,rem,a,w,_,_,hc,_,_,_=>by simp [chkA] at hc
 | .ev j t alt,rem,a,w,hn,cC,hc,hr,jr,rF=>by
  exfalso
  have key:∀ (T:de) (seen:List Nat),(∀ k∈seen,A1 ops k=true)->chkA ops T rem (some seen)=true->False:=by
   intro T
   induction T with
   | fin=>intro seen _ h;simp [chkA] at h
   | op=>intro seen _ h;simp [chkA] at h
   | ev k t alt _ ih=>grind [chkA]
   | stop=>grind [chkA,nE]
  grind [chkA]
 | .op j t,rem,a,w,hn,cC,hc,hr,jr,rF=>by
  simp only [chkA,aP,Bool.not_eq_true'] at hc;obtain ⟨_,mD,JD,F1,x6⟩:=hc;have mD:j∈rem:=sU mD;simp only [runS2] at hr;obtain ⟨y,hy,v,DR,LG,Iq⟩:=hr;by_cases fK:i=j
  ·subst fK;rw [hi] at hy;simp only [oI] at hy;subst hy;exact ⟨v,DR,LG,t,x6,Iq⟩
  ·have vM:=tB hP cC rF F1 jr mD fK (.inr JD);obtain ⟨BD,IY,_,_⟩:=cT vM hy hi;obtain ⟨u,hu,P4,T',Sw,CG⟩:=qV dO hP hi hE t (rem.erase j) (a.put y.dst v) w (hn.erase j) (iz hn cC F1) x6 Iq ((List.mem_erase_of_ne fK).2 jr) (ez rF);have Dd:=fun cs b=>dO i o cs b hi;have O1:=fun cs b=>dO j y cs b hy;obtain ⟨_,Sx,_⟩:=Oper.apart_spec BD;refine ⟨u,(Yl.same BD Dd).1 hu,P4,.op j T',?_,?_⟩
   ·grind [chkA,ez]
   ·simp only [runS2];refine ⟨y,hy,v,(Yl.same IY O1).2 DR,LG,?_⟩;rw [<- Act.put_comm a v u Sx];exact CG
theorem tD {e:Nat}:∀ (T:de) (rem:List Nat) (seen:List Nat) (a:Act) (w:World),chkA ops T rem (some seen)=true->runS2 P ops W C Q T a w->e∈rem->rdy ops rem e=true->e ∉ seen ->
  ∃ o t,ops[e]? = some o/\chkA ops t (rem.erase e) none=true/\cd P ops o a w fun a' w'=>(∀ j,W e j=false->C j w->C j w')/\runS2 P ops W C Q t a' w'
 | .fin,rem,seen,a,w,hc,_,_,_,_=>by simp [chkA] at hc
 | .op _ _,rem,seen,a,w,hc,_,_,_,_=>by simp [chkA] at hc
 | .stop,rem,seen,a,w,hc,_,hm,hr,hs=>by
  simp only [chkA,List.all_eq_true,Bool.or_eq_true,Bool.not_eq_true'] at hc;rcases hc e hm with h | h
  ·rw [hr] at h;cases h
  ·exact (hs (sU h)).elim
 | .ev i t alt,rem,seen,a,w,hc,hr,hm,rF,hs=>by
  simp only [chkA,aP,Option.getD_some] at hc;simp only [runS2] at hr;obtain ⟨⟨o,ho,bo⟩,LH⟩:=hr;by_cases Hw:i=e
  ·subst Hw;exact ⟨o,t,ho,hc.2.2.2.1,bo⟩
  ·exact tD alt rem (i :: seen) a w hc.2.2.2.2 LH hm rF (fun h=>by
    rcases bX h with h | h
    ·exact Hw h.symm
    ·exact hs h)
theorem xW (dO:∀ (j:Nat) (o:Oper) cs b,ops[j]? = some o->o.op ≠ .select cs b) (hP:tA ops W=true) {i:Nat} {o:Oper} (hi:ops[i]? = some o) (hE:isE o.op=true) :
  ∀ (T:de) (rem:List Nat) (a:Act) (w:World),rem.Nodup->Cl ops rem->chkA ops T rem none=true->runS2 P ops W C Q T a w->i∈rem->rdy ops rem i=true ->
   cd P ops o a w (fun a' w'=>(∀ j,W i j=false->C j w->C j w')/\Bj P ops W C Q (rem.erase i) a' w')
 | .fin,rem,a,w,_,_,hc,_,jr,_=>by grind [chkA]
 | .stop,rem,a,w,_,_,hc,_,_,_=>by simp [chkA] at hc
 | .ev j t alt,rem,a,w,hn,cC,hc,hr,jr,rF=>by
  simp only [chkA,aP,Option.getD_none] at hc;simp only [runS2] at hr;obtain ⟨⟨y,hy,bo⟩,LH⟩:=hr;by_cases fK:i=j
  ·subst fK;rw [hi] at hy;simp only [oI] at hy;subst hy;exact bM (fun a' w' h=>⟨h.1,t,hc.2.2.2.1,h.2⟩) bo
  ·obtain ⟨o',t',rQ,x6,hs⟩:=tD alt rem [j] a w hc.2.2.2.2 LH jr rF (sU fK);rw [hi] at rQ;simp only [oI] at rQ;subst rQ;exact bM (fun a' w' h=>⟨h.1,t',x6,h.2⟩) hs
 | .op j t,rem,a,w,hn,cC,hc,hr,jr,rF=>by
  simp only [chkA,aP,Bool.not_eq_true'] at hc;obtain ⟨_,mD,JD,F1,x6⟩:=hc;have mD:j∈rem:=sU mD;simp only [runS2] at hr;obtain ⟨y,hy,v,DR,LG,Iq⟩:=hr;have fK:i≠j:=by grind [nE]
  have vM:=tB hP cC rF F1 jr mD fK (.inr JD);obtain ⟨BD,IY,_,Tx⟩:=cT vM hy hi;have Dd:=fun cs b=>dO i o cs b hi;have O1:=fun cs b=>dO j y cs b hy;have ih:=xW dO hP hi hE t (rem.erase j) (a.put y.dst v) w (hn.erase j) (iz hn cC F1) x6 Iq ((List.mem_erase_of_ne fK).2 jr) (ez rF);refine bM ?_ (iO ((j9 BD Dd).1 ih));rintro a' w' ⟨⟨BE,T',Sw,CG⟩,u,rfl⟩;refine ⟨BE,.op j T',?_,?_⟩
  ·grind [chkA,ez]
  ·grind [runS2,Yl.same]
theorem C8 {Q':Exit->Act->World->Prop} (dO:∀ (j:Nat) (o:Oper) cs b,ops[j]? = some o->o.op ≠ .select cs b) (hP:tA ops W=true) (hb:∀ (i:Nat) (o:Oper),ops[i]? = some o->∀ e∈o.after,Region.binds .any e=true->e.on < ops.size)
  (hQ:∀ a w,Q a w->Q' .normal a w):∀ (fl:Nat) (ak:Array Bool) (rem:List Nat) (a:Act) (w:World),
  ak.size=ops.size->(∀ i,i∈rem↔i < ops.size/\ak.getD i true=false)->rem.Nodup->Cl ops rem->rem.length<=fl->Bj P ops W C Q rem a w->wpAny P .any ops Q' fl ak a w:=by
 have uL:∀ (ak:Array Bool) (rem:List Nat),ak.size=ops.size->(∀ i,i∈rem↔i < ops.size/\ak.getD i true=false)->∀ i,i∈Region.ready .any ops ak↔i∈rem/\rdy ops rem i=true:=by
  intro ak rem cf iP i;have hl:∀ k,k < ops.size->(ak.getD k false=true↔k ∉ rem):=fun k hk=>by grind
  rw [mem_ready]
  grind [rdy,dR]
 intro fl
 induction fl with
 | zero=>
  intro ak rem a w cf iP hn cC hlen hr;have:rem=[]:=List.length_eq_zero_iff.1 (by omega);subst this;obtain ⟨T,hT,CG⟩:=hr;refine ⟨?_,hQ _ _ ?_⟩
  ·rw [List.eq_nil_iff_forall_not_mem];intro i hi;cases ((uL ak [] cf iP i).1 hi).1
  ·cases T with
   | fin=>exact CG
   | op i t=>simp [chkA] at hT
   | ev i t alt=>simp [chkA] at hT
   | stop=>simp [chkA] at hT
 | succ fl ih=>
  intro ak rem a w cf iP hn cC hlen hr;obtain ⟨T,hT,CG⟩:=hr;refine ⟨fun h0=>?_,fun i hi=>?_⟩
  ·cases T with
   | fin=>exact hQ _ _ CG
   | op i t=>
    exfalso;simp only [chkA,aP] at hT;have:=(uL ak rem cf iP i).2 ⟨by simpa using hT.2.1,hT.2.2.2.1⟩;rw [h0] at this;cases this
   | ev i t alt=>
    exfalso;simp only [chkA,aP] at hT;have:=(uL ak rem cf iP i).2 ⟨by simpa using hT.1,hT.2.2.1⟩;rw [h0] at this;cases this
   | stop=>simp [chkA] at hT
  ·obtain ⟨jr,Sy⟩:=(uL ak rem cf iP i).1 hi;obtain ⟨o,ho,_⟩:=dR Sy;have iE:=(Array.getElem?_eq_some_iff.1 ho).1
   have sc:∀ k,k∈rem.erase i↔k < ops.size/\(ak.setIfInBounds i true).getD k true=false:=by
    intro k;rw [List.Nodup.mem_erase_iff hn];by_cases lN:k=i
    ·subst lN;simp [cf,iE]
    ·rw [getD_set_ne true (Ne.symm lN)]
     grind
   grind [Bj,iz,mW,isE,bM,xW,qV,fk]
end
section
variable {X:Ctx} {st:St} {E:En} {a:Act} {w:World}
theorem GC {o2:Oper} {d1 kt ty e m oA:Nat} {z:Int} {es:List (List DV)} {cs cs':List DV} {v:Value} {x:Operand} {dv:DV} {g cap:Nat}
  (hr1:Rel X E st a w) (h2:o2.op = .store ty (.tmp d1) x) (ht1:a.eval (.tmp d1) = .pointer (some ⟨g,z.toNat * e,none⟩)) (hv:Rv E (.sl 0 es (some kt)) v) (UG:v = .slice (some ⟨g,0,none⟩) m cap)
  (hx:rv st [] x=some dv) (Oi:eraL dv.cells (fun l=>some l)=some cs') (Lb:dv.cells.length=e) (UH:0 < e)
  (cf:X.T.sz ty=some e) (hq:st.tk[kt]? = some ⟨m,oA,e,some cs⟩) (gT:es.length=m) (hz:0<=z/\z < m) (bo:X.still=false) :
  ∃ w' E',(execOp a.eval o2).run X.P w = .ok .skip w' /\ Rel X E' ⟨st.sl,st.bx,st.tk.set kt ⟨m,oA,e,some (cs.take (z.toNat * e) ++ cs' ++ cs.drop (z.toNat * e + e))⟩⟩ a w' /\ CC E st.bx w w':=by
 obtain ⟨g',jE,cur,e1,gg,hy,hw0,vD,h5,h6,ph,rr,fH,hc0⟩:=uP hr1 hv hq gT (by omega);rw [UG] at e1;injection e1 with i1 i2 i3
 injection i1 with i1
 injection i1 with i1
 subst i1 i3;rw [UG] at hy;have e3:=aK hr1.rl hx;have cC:RvC E dv.cells (a.eval x).cells.toList:=e3.cells (eW (n:=e) Lb (by omega));have vA:(a.eval x).cells.toList.length=e:=by rw [cC.1.length];exact Lb
 obtain ⟨l',Bv,hx1,_⟩:=kS Oi cC;simp only [oI] at Bv;rw [Bv] at hx1;have hme:m * e<=cap * e:=Nat.mul_le_mul_right _ ph
 have mP:z.toNat * e + e<=m * e:=by
  have:(z.toNat + 1) * e<=m * e:=Nat.mul_le_mul_right _ (by omega);rw [Nat.add_mul] at this;omega
 have Jz:cur.toList.length=cap * e:=sU vD;have IW:=fV (P:=X.P) (t:=ty) (off:=z.toNat * e) (n:=e) hw0 (vp X.hT cf) vA (by rw [vD];omega) (List.all_eq_true.2 cC.2);generalize hN:cur.toList.take (z.toNat * e) ++ (a.eval x).cells.toList ++ cur.toList.drop (z.toNat * e + e)=N at IW;have hNl:N.length=cap * e:=by grind
 have hNt:N.take (m * e)=(cur.toList.take (m * e)).take (z.toNat * e) ++ (a.eval x).cells.toList ++ (cur.toList.take (m * e)).drop (z.toNat * e + e):=by
  subst hN;rw [List.take_append,List.take_append,List.take_take,List.take_take];have h1:(cur.toList.take (z.toNat * e)).length=z.toNat * e:=by rw [zLenT];omega
  rw [List.length_append,h1,vA,Nat.min_eq_right (by omega),Nat.min_eq_left (by omega),List.take_of_length_le (l:=(a.eval x).cells.toList) (by rw [vA];omega),List.drop_take]
 have rf:vj (World.bZ w g (.cells N.toArray oA (0,0))) E.c E.β ⟨m,oA,e,some (cs.take (z.toNat * e) ++ cs' ++ cs.drop (z.toNat * e + e))⟩ (.slice (some ⟨g,0,none⟩) m cap):=by
  refine .inr ⟨g,cap,_,rfl,ep hw0,⟨by simpa using hNl,fun mC Ae=>?_⟩,ph,rr,fH,hc0⟩;simp only [oI] at Ae;subst Ae;simp only;have h8:=((RvC.take (z.toNat * e) h6).append hx1).append (RvC.drop (z.toNat * e + e) h6);rw [<- hNt] at h8;have hl8:=h8.1.length;refine ⟨?_,by show RvC E.cl _ (N.toArray.toList.take (m * e));simpa using h8⟩;rw [<- hl8,zLenT,hNl];omega
 obtain ⟨ba,_⟩:=tN (q':=⟨m,oA,e,some (cs.take (z.toNat * e) ++ cs' ++ cs.drop (z.toNat * e + e))⟩) (w':=World.bZ w g (.cells N.toArray oA (0,0))) hr1 bo gg hy rfl rfl rfl (.inl ⟨rfl,rfl⟩) rf (.inl rfl) rfl rfl rfl (by rw [dn];exact bd _) (fun j _ aY=>bB (by
  rintro rfl
  exact aY rfl))
 refine ⟨_,_,?_,ba,⟨fun i b _ hb _ _=>bB (by
  rintro rfl
  exact fH (mG hb)),fun y v hy=>ba.env.sub y v hy⟩⟩
 simp only [execOp,h2,ht1,Instr.storeAt,Instr.sureAddr,Sem.run_bind,Sem.run_pure,Result.andThen_ok,IW]
end
section
variable {X:Ctx} {st:St} {k:List It} {E:En} {a:Act} {w:World} {ops:Array Oper} {C:Nat->World->Prop} {Q:Act->World->Prop} {W:Nat->Nat->Bool} {T:de}
theorem fT {i:Nat} {o:Oper} (hR:Rel X E st a w) (ho:ops[i]? = some o) (hL:isL o.op=false) (hg:o.guard=none) {s:DV} (hs:pureT X.P X.T ⟨st.sl,[],[]⟩ [] o.op=some s) (hd:dE X.nt st.sl o.dst=true)
  (hk:∀ a',Rel X E (st.put o.dst ⟨[],s⟩) a' w->runS2 X.P ops W C Q T a' w):runS2 X.P ops W C Q (.op i T) a w:=by
 have fM:Rl E [] (fun _=>False) st.sl a:=⟨hR.tm,fun i cs hi=>by simp at hi,fun _ _ _ _ h=>h.elim⟩;obtain ⟨v,hv,bg⟩:=cQ (st:=⟨st.sl,[],[]⟩) X.hT fM (aG _) hs;exact ⟨o,ho,v,.inl ⟨bK hg,fun w' _=>bg w' fun h=>by rw [hL] at h;cases h⟩,fun h=>(by rw [hL] at h;cases h),hk _ (aO hR hd s v hv)⟩
theorem oe {i:Nat} {o:Oper} (hR:Rel X E st a w) (ho:ops[i]? = some o) {bx:List (List DV)} (fM:Rl E bx (C i) st.sl a) (Hh:C i w) (hg:o.guard=none) {s:DV} (hs:pureT X.P X.T ⟨st.sl,bx,[]⟩ [] o.op=some s) (hd:dE X.nt st.sl o.dst=true)
  (hk:∀ a',Rel X E (st.put o.dst ⟨[],s⟩) a' w->runS2 X.P ops W C Q T a' w):runS2 X.P ops W C Q (.op i T) a w:=by
 obtain ⟨v,hv,bg⟩:=cQ (st:=⟨st.sl,bx,[]⟩) X.hT fM (aG _) hs;exact ⟨o,ho,v,.inl ⟨bK hg,fun w' h=>bg w' h⟩,fun _=>Hh,hk _ (aO hR hd s v hv)⟩
theorem Bl {o1 o2:Oper} {i1 i2 d1 d2 kt t ty et e gf m oA nn:Nat} {bb:Bool} {zz:List Value} {z:Int} {kd:IntKind} {es:List (List DV)} {cs:List DV} {s ix:Operand} {d':DV}
  (hR:Rel X E st a w) (g1:ops[i1]? = some o1) (g2:ops[i2]? = some o2) (h1:o1.op = .indexAddr t s ix/\o1.dst=some d1/\o1.guard=none) (h2:o2.op = .load ty (.tmp d1)/\o2.dst=some d2/\o2.guard=none)
  (u9:dE X.nt st.sl (some d1)=true) (BF:dE X.nt ((d1,⟨[],.pt [] 0⟩) :: st.sl) (some d2)=true)
  (hs:rv st [] s=some (.sl 0 es (some kt))) (hi:rv st [] ix=some (.v (.int kd z))) (hT:X.T.find t=some ⟨nn,bb,.sl et e gf,zz⟩) (hq:st.tk[kt]? = some ⟨m,oA,e,some cs⟩) (gT:es.length=m) (hz:0<=z/\z < m)
  (hl:cellsT X.T ty cs (z.toNat * e)=some d') (hC:∀ w',C i2 w' -> w'=w) (Hh:C i2 w)
  (hk:∀ a',Rel X E ⟨(d2,⟨[],d'⟩) :: (d1,⟨[],.pt [] 0⟩) :: st.sl,st.bx,st.tk⟩ a' w->runS2 X.P ops W C Q T a' w):runS2 X.P ops W C Q (.op i1 (.op i2 T)) a w:=by
 have fM:=hR.rl;have e2:=bm (aK fM hi);obtain ⟨g,cap,cur,e1,gg,hy,hw0,vD,cC,G7,GV,hcm,Tr,hgc⟩:=uP hR (aK fM hs) hq gT (by omega);have KM:isE o1.op=false:=by rw [h1.1];all_goals rfl
 have SU:isL o1.op=false:=by rw [h1.1];all_goals rfl
 have Qf:isE o2.op=false:=by rw [h2.1];all_goals rfl
 have hr1:Rel X E ⟨(d1,⟨[],.pt [] 0⟩) :: st.sl,st.bx,st.tk⟩ (a.put (some d1) (.pointer (some ⟨g,z.toNat * e,none⟩))) w:=aO hR u9 (.pt [] 0) _ (by unfold Rv;exact ⟨g,z.toNat * e,rfl,by simp only [RvAt]⟩)
 have ht1:(a.put (some d1) (.pointer (some ⟨g,z.toNat * e,none⟩))).eval (.tmp d1) = .pointer (some ⟨g,z.toNat * e,none⟩):=by
  simp only [dE,aP,Nat.blt_eq] at u9;simp [Act.eval,Act.put,hR.sz,u9.1]
 simp only [runS2];refine ⟨_,g1,.pointer (some ⟨g,z.toNat * e,none⟩),.inl ⟨bK h1.2.2,fun w9 _=>A5 h1.1 e1 e2 hT hz w9⟩,fun h9=>(by rw [SU] at h9;cases h9),?_⟩;rw [h1.2.1];generalize a.put (some d1) (.pointer (some ⟨g,z.toNat * e,none⟩))=a1 at hr1 ht1;obtain ⟨v,hv,Mh⟩:=gn X.hT G7 (b:=g) (p:=0) hl;have Mh:=Mh w fun j u hj=>by grind [bD]
 rw [Nat.zero_add] at Mh;refine ⟨_,g2,v,.inl ⟨bK h2.2.2,fun w9 h9=>?_⟩,fun _=>Hh,?_⟩
 ·have qY:=hC w9 (h9 (by rw [h2.1];rfl));subst qY;simp only [execOp,h2.1,ht1,Sem.run_bind,Instr.loadAt,Instr.sureAddr,Sem.run_pure,Result.andThen_ok,Mh]
 ·rw [h2.2.1];exact hk _ (aO hr1 BF d' v (Rv.mono (Ext.Al E) hv))
theorem Bm {o1 o2:Oper} {i1 i2 d1 kt t ty et e gf m oA nn:Nat} {bb:Bool} {zz:List Value} {z:Int} {kd:IntKind} {es:List (List DV)} {cs cs':List DV} {s ix x:Operand} {dv:DV}
  (hR:Rel X E st a w) (g1:ops[i1]? = some o1) (g2:ops[i2]? = some o2) (h1:o1.op = .indexAddr t s ix/\o1.dst=some d1/\o1.guard=none) (h2:o2.op = .store ty (.tmp d1) x/\o2.dst=none/\o2.guard=none)
  (u9:dE X.nt st.sl (some d1)=true)
  (hs:rv st [] s=some (.sl 0 es (some kt))) (hi:rv st [] ix=some (.v (.int kd z))) (hx:rv ⟨(d1,⟨[],.pt [] 0⟩) :: st.sl,st.bx,st.tk⟩ [] x=some dv) (Oi:eraL dv.cells (fun l=>some l)=some cs') (Lb:dv.cells.length=e) (UH:0 < e)
  (hT:X.T.find t=some ⟨nn,bb,.sl et e gf,zz⟩) (cf:X.T.sz ty=some e) (hq:st.tk[kt]? = some ⟨m,oA,e,some cs⟩) (gT:es.length=m) (hz:0<=z/\z < m) 
  (hk:∀ a' E' w',CC E st.bx w w' -> Rel X E' ⟨(d1,⟨[],.pt [] 0⟩) :: st.sl,st.bx,st.tk.set kt ⟨m,oA,e,some (cs.take (z.toNat * e) ++ cs' ++ cs.drop (z.toNat * e + e))⟩⟩ a' w' -> (∀ j,W i2 j=false->C j w->C j w')/\runS2 X.P ops W C Q T a' w')
  (bo:X.still=false:=by exact rfl):runS2 X.P ops W C Q (.op i1 (.ev i2 T .stop)) a w:=by
 have fM:=hR.rl;have e2:=bm (aK fM hi);have hv:=aK fM hs;obtain ⟨g,cap,cur,e1,_⟩:=uP hR hv hq gT (by omega);have KM:isE o1.op=false:=by rw [h1.1];all_goals rfl
 have SU:isL o1.op=false:=by rw [h1.1];all_goals rfl
 have Qf:isE o2.op=true:=by rw [h2.1];all_goals rfl
 have hr1:Rel X E ⟨(d1,⟨[],.pt [] 0⟩) :: st.sl,st.bx,st.tk⟩ (a.put (some d1) (.pointer (some ⟨g,z.toNat * e,none⟩))) w:=aO hR u9 (.pt [] 0) _ (by unfold Rv;exact ⟨g,z.toNat * e,rfl,by simp only [RvAt]⟩)
 have ht1:(a.put (some d1) (.pointer (some ⟨g,z.toNat * e,none⟩))).eval (.tmp d1) = .pointer (some ⟨g,z.toNat * e,none⟩):=by
  simp only [dE,aP,Nat.blt_eq] at u9;simp [Act.eval,Act.put,hR.sz,u9.1]
 simp only [runS2];refine ⟨_,g1,.pointer (some ⟨g,z.toNat * e,none⟩),.inl ⟨bK h1.2.2,fun w9 _=>A5 h1.1 e1 e2 hT hz w9⟩,fun h9=>(by rw [SU] at h9;cases h9),?_⟩;rw [h1.2.1];generalize a.put (some d1) (.pointer (some ⟨g,z.toNat * e,none⟩))=a1 at hr1 ht1;have wR:=bK (ops:=ops) (a:=a1) h2.2.2;refine ⟨⟨_,g2,?_⟩,trivial⟩;unfold cd;rw [aj wR];obtain ⟨w2,E2,bg,lT,nM⟩:=GC hr1 h2.1 ht1 hv e1 hx Oi Lb UH cf hq gT hz bo;refine tP bg ?_;rw [h2.2.1];exact hk _ _ _ nM lT
theorem drawG_2 {id:Nat} (W:Nat->Nat->Bool) (T:de) (hm:X.P.follows .mixedOrders=true) (hc:(zD ops && tA ops W && chkA ops T (List.range ops.size) none)=true)
  (h:∀ E a w,Rel X E st a w->∃ C,runS2 X.P ops W C (kq X k .normal) T a w):jm X id ops k st:=by
 intro E a w hr;have eh:=eD hr;simp only [aP] at hc;obtain ⟨⟨hN,hP⟩,hT⟩:=hc;simp only [zD,aP,List.all_eq_true,List.mem_range] at hN;obtain ⟨C,bg⟩:=h E a w.drew eh;refine wp_region_any hm ?_;refine C8 (C:=C) (Q:=kq X k .normal) (Region.noSelect_spec hN.1) hP (fun i o ho e he hb=>?_) (fun a w hq=>hq) ops.size (Array.replicate ops.size false) (List.range ops.size) a _ (by simp) ?_ List.nodup_range ?_ (by simp) ⟨T,hT,bg⟩
 ·have h1:=hN.2 i (Array.getElem?_eq_some_iff.1 ho).1;rw [ho] at h1;have h2:=List.all_eq_true.1 h1 e (sU he);rw [hb] at h2;simpa using h2
 ·simp_all
 ·intro k o ho hk
  grind
end
end Dv
end Go.Proofs.YtfdedoiiahbnnaaGreat
set_option maxRecDepth 100000
namespace Go.Proofs.YtfdedoiiahbnnaaGreat
namespace Dv
theorem A6 {n0 m0:Nat} {st aJ:St} (n:Nat) (q q':TkE) (hq:q.new=true) (jo:q'.new=true) (hn:Nat.ble n st.bx.length=true) (h3:st.tk ++ [q,q']=aJ.tk) (h2:WeLL n st.tk.length aJ.tk (st.bx.take n) aJ.bx) (h4:Nat.ble n0 n=true) (h5:Nat.ble m0 st.tk.length=true)
  (h:jq n st.tk.length aJ.tk st.sl aJ.sl):kF n0 m0 st aJ:=by
 have hl:(st.bx.take n).length=n:=by simp_all
 exact ⟨st.tk,[],[q,q'],st.bx.take n,st.bx.drop n,by simpa using h5,by rw [hl];simpa using h4,by simp,h3.symm,by simp [hq,jo],(List.take_append_drop n st.bx).symm,by rw [hl];exact h2,by rw [hl];exact h⟩
theorem IJ {X:Ctx} {sl l:List (Nat × Sl)} {bx:List (List DV)} {tk:List TkE} (h:Dv.se sl l):Wk X ⟨sl,bx,tk⟩ ⟨l,bx,tk⟩:=fun E _ _ hr=>⟨E,{ hr with tm:=fun i x hx=>hr.tm i x (Dv.kY h i x hx) }⟩
end Dv
open Go Go.RowKit Dv Go.Proofs.Tryz
theorem zZ (a n:Int) (s:ByteArray) (keys:List Wd) (ks:List Rw) (rV:keys.length=ks.length) (aY:ks ≠ []) (hl:ks.length<=1099511627776) (ih:∀ x∈ks,bh prog 32 [.agg (dRw x)] (.agg (dRw (rtnR x)))) :
  bh prog 32 [.agg (dRw (.mk 5 a n s keys ks))] (.agg (dRw (rtnR (.mk 5 a n s keys ks)))):=by
 have An:=fA ks;have wR:=aE keys;have mP:0 < ks.length:=List.length_pos_iff.2 aY;have nj:∀ N,(List.replicate N ([]:List DV)).length=N:=fun N=>List.length_replicate;rw [rtnR,aj ⟨rfl,rV⟩];refine eG 100 [.cell 2 70] func32 rfl ntmps32 rfl fun _ _ _ _=>?_;refine b9 (fun j st=>∃ (e:Nat) (cs:List DV),st=GA a n s keys ks e e cs/\cs=(dRws (rtnRs (ks.take e))).flatten/\e<=ks.length/\j=ks.length - e) ks.length (GA a n s keys ks 0 0 []) ?_ ⟨0,_,rfl,rfl,by omega,by omega⟩ ?_
 ·exact A6 3 ⟨0,70,6,some []⟩ ⟨0,34,2,some []⟩ rfl rfl rfl rfl (by repeat' (first | exact rfl | exact au rfl | exact cS (Nat.zero_le _) rfl | refine ⟨_,_,rfl,?_,?_⟩)) rfl rfl wB
 rintro j st ⟨e,cs,rfl,bP,he,rfl⟩;refine br (fun av=>?_) (fun bO=>?_)
 ·have av:e < ks.length:=sV An av;obtain ⟨x,hx⟩:=gX av;have hc:=ih x (mG hx);have lz:=qT hx;generalize hX:rtnR x=X at hc lz;obtain ⟨xk,xa,xn,xs,xw,xv⟩:=X;obtain ⟨yk,ya,yn,ys,yw,yv⟩:=x;refine dS ?_;refine iX (jZ hx) ?_;refine cD KP hc ?_;refine ⟨⟨⟨nj e,by simp⟩,by simp [maxLen];omega,by simp;omega⟩,?_⟩;exact ⟨GA a n s keys ks (e + 1) (e + 1) (cs ++ dRw (.mk xk xa xn xs xw xv)),(jx 3 (GJ (bV av (by omega))) (iF (bV av (by omega)))),ks.length - (e + 1),by omega,e + 1,_,rfl,by rw [lz,<- nC,List.flatten_append,<- bP];simp,by omega,rfl⟩
 ·have bO:e=ks.length:=sW An bO;subst bO;rw [List.take_length] at bP;refine ⟨⟨⟨rfl,fun h=>by rw [h] at wR;simp at wR;omega⟩,by simp [maxLen,wR];omega,by simp [wR];omega⟩,?_⟩;refine br (fun _=>?_) (fun g=>absurd g (by simp [pickB,wR,An,rV]));refine dI ?_;refine Gy (fun s'=>s'.bx=[dRw (.mk 5 a n s keys ks),rK,uO 5 a n s (nI (0 + (bf keys).length) 1) (nI ks.length 0)]/\s'.tk=[⟨ks.length,70,6,some (dRws (rtnRs ks).reverse).flatten⟩,⟨(0 + (bf keys).length),34,2,some (bf keys.reverse).flatten⟩]/\Dv.se s'.sl [((2:Nat),(⟨[],.loc 1 0⟩:Sl)),aS 3 2]) ?_ ?_
  ·have Qk:(rtnRs ks).length=ks.length:=kC ks
   have hw0:IntKind.i64.wrap ((ks.length:Int) - 1)=((ks.length - 1:Nat):Int):=by
    rw [wrap64 (by omega) (by omega)];omega
   have Ig:IntKind.i64.wrap (((dRws ks).length:Int) - 1)=((ks.length - 1:Nat):Int):=by rw [An];exact hw0
   generalize Rx:rtnRs ks=L at Qk bP ⊢;generalize hD:(Rw.mk 0 0 0 al [] [])=dr;generalize hDw:(Wd.mk al 0)=dw;refine b9 (fun t st=>∃ (e:Nat) (c0 c1:List DV),st=GB a n s keys ks ks.length (0 + (bf keys).length) e (ks.length - 1 - e) c0 c1/\c0=(dRws (rvG dr L e)).flatten/\c1=(bf (rvG dw keys e)).flatten/\2 * e<=ks.length/\t=ks.length - 2 * e) ks.length (GB a n s keys ks ks.length (0 + (bf keys).length) 0 (ks.length - 1) cs (bf keys).flatten) ?_ ⟨0,_,_,rfl,by rw [xS];exact bP,by rw [xS],by omega,by omega⟩ ?_
   ·exact (jx 3 (GJ Ig) (iF Ig))
   rintro t st ⟨e,c0,c1,rfl,hc0,hc1,EL,rfl⟩;refine br ?_ ?_<;>intro Ov
   rotate_left
   ·have bO:ks.length<=2 * e + 1:=by have:=of_decide_eq_false Ov;omega
    rw [rvG_end dr L e (by omega) (by omega)] at hc0;rw [rvG_end dw keys e (by omega) (by omega)] at hc1;subst hc0 hc1;exact ⟨rfl,rfl,rfl,rfl,trivial⟩
   have av:2 * e + 1 < ks.length:=by have:=of_decide_eq_true Ov;omega
   obtain ⟨hA,hB⟩:=Gz dr L e (by omega);obtain ⟨UI,UJ⟩:=Gz dw keys e (by omega);obtain ⟨x,hx⟩:∃ x,L[L.length - 1 - e]? = some x:=⟨_,gE (by omega)⟩;obtain ⟨y,hy⟩:∃ y,L[e]? = some y:=⟨_,gE (by omega)⟩;obtain ⟨u,hu⟩:∃ u,keys[keys.length - 1 - e]? = some u:=⟨_,gE (by omega)⟩;obtain ⟨v,hv⟩:∃ v,keys[e]? = some v:=⟨_,gE (by omega)⟩;have SV:=xT dr L e (by omega) hx hy;have Pp:=xT dw keys e (by omega) hu hv;rw [hx] at hB;rw [hy] at hA;rw [hu] at UJ;rw [hv] at UI;have GR:=xU hB;have UK:=xU hA;have SX:=xV UJ;have LO:=xV UI;have J7:=qU dRw 6 mA (rvG dr L e) e x (by rw [jj];omega);have Ag:=qU dRw 6 mA ((rvG dr L e).set e x) (L.length - 1 - e) y (by rw [List.length_set,jj];omega);have ht1:=qU ki 2 oT (rvG dw keys e) e u (by rw [jj];omega);have yX:=qU ki 2 oT ((rvG dw keys e).set e u) (keys.length - 1 - e) v (by rw [List.length_set,jj];omega);rw [SV,<- J7,<- dQ,<- dQ,<- hc0] at Ag;rw [Pp,<- ht1] at yX;rw [<- hc0] at GR UK;rw [<- hc1] at SX LO;have yX:_=(bf (rvG dw keys (e + 1))).flatten:=yX;have SY:((rvG dw keys e).map ki).flatten=c1:=hc1.symm;rw [SY] at yX;rw [Qk] at GR Ag;rw [rV] at SX yX;obtain ⟨xk,xa,xn,xs,xw,xv⟩:=x;obtain ⟨yk,ya,yn,ys,yw,yv⟩:=y;obtain ⟨us,ua⟩:=u;obtain ⟨vs,va⟩:=v;refine drawG_2 (fun i j=>(Nat.beq i 17 && !(Nat.beq j 4)) || Nat.beq i 19) (.op 0 (.op 1 (.op 2 (.op 3 (.op 4 (.op 5 (.op 6 (.op 7 (.op 8 (.op 9 (.op 10 (.op 11 (.op 12 (.op 13 (.op 14 (.op 15 (.op 16 (.ev 17 (.op 18 (.ev 19 .fin .stop)) .stop)))))))))))))))))) mo (by decide +kernel) (fun Ep ap wp SZ=>⟨fun j w'=>match Nat.beq j 4 with | true=>CC Ep [dRw (.mk 5 a n s keys ks),rK,uO 5 a n s (nI (0 + (bf keys).length) 1) (nI ks.length 0)] wp w' | false=>w'=wp,?_⟩);refine fT SZ rfl rfl rfl rfl rfl (fun bp0 UL=>?_);refine oe UL rfl UL.rl rfl rfl rfl rfl (fun bp1 x5=>?_);refine fT x5 rfl rfl rfl rfl rfl (fun bp2 GM=>?_);refine fT GM rfl rfl rfl rfl rfl (fun bp3 UM=>?_);refine oe UM rfl (uC UM SZ.env.em (fun w' h=>h)) (show CC _ _ _ _ from ⟨fun _ _ _ _ _ _=>rfl,SZ.env.sub⟩) rfl rfl rfl (fun bp4 hp4=>?_);refine fT hp4 rfl rfl rfl rfl rfl (fun bp5 hp5=>?_);refine fT hp5 rfl rfl rfl rfl rfl (fun bp6 UN=>?_);refine oe UN rfl UN.rl rfl rfl rfl rfl (fun bp7 hp7=>?_);refine fT hp7 rfl rfl rfl rfl rfl (fun bp8 hp8=>?_);refine Bl (kt:=0) hp8 rfl rfl ⟨rfl,rfl,rfl⟩ ⟨rfl,rfl,rfl⟩ rfl rfl rfl rfl rfl rfl (nj _) ⟨by omega,by omega⟩ GR (fun _ h=>h) rfl (fun bp10 S0=>?_);refine fT S0 rfl rfl rfl rfl rfl (fun bp11 Pq=>?_);refine oe Pq rfl Pq.rl rfl rfl rfl rfl (fun bp12 S1=>?_);refine fT S1 rfl rfl rfl rfl rfl (fun bp13 OS=>?_);refine Bl (kt:=0) OS rfl rfl ⟨rfl,rfl,rfl⟩ ⟨rfl,rfl,rfl⟩ rfl rfl rfl rfl rfl rfl (nj _) ⟨by omega,by omega⟩ UK (fun _ h=>h) rfl (fun bp15 S2=>?_);refine Bm (kt:=0) S2 rfl rfl ⟨rfl,rfl,rfl⟩ ⟨rfl,rfl,rfl⟩ rfl rfl rfl rfl rfl rfl (Nat.succ_pos 5) rfl rfl rfl (nj _) ⟨by omega,by omega⟩ (fun bp17 Fp17 vp17 Pr S3=>⟨fun j hj _=>?_,?_⟩)
   ·cases hb:Nat.beq j 4 with
    | true=>exact Pr
    | false=>rw [hb] at hj;cases hj
   refine Bm (kt:=0) S3 rfl rfl ⟨rfl,rfl,rfl⟩ ⟨rfl,rfl,rfl⟩ rfl rfl rfl rfl rfl rfl (Nat.succ_pos 5) rfl rfl rfl (nj _) ⟨by omega,by omega⟩ (fun S4 S5 S6 UO S7=>⟨fun j hj _=>?_,?_⟩)
   ·simp at hj
   refine go_sound 4000 _ _ ?_ S5 S4 S6 S7;refine drawG_2 (fun i j=>(Nat.beq i 17 && !(Nat.beq j 4)) || Nat.beq i 19) (.op 0 (.op 1 (.op 2 (.op 3 (.op 4 (.op 5 (.op 6 (.op 7 (.op 8 (.op 9 (.op 10 (.op 11 (.op 12 (.op 13 (.op 14 (.op 15 (.op 16 (.ev 17 (.op 18 (.ev 19 .fin .stop)) .stop)))))))))))))))))) mo (by decide +kernel) (fun Eq aq wq S8=>⟨fun j w'=>match Nat.beq j 4 with | true=>CC Eq [dRw (.mk 5 a n s keys ks),rK,uO 5 a n s (nI (0 + (bf keys).length) 1) (nI ks.length 0)] wq w' | false=>w'=wq,?_⟩);refine fT S8 rfl rfl rfl rfl rfl (fun bq0 rW=>?_);refine oe rW rfl rW.rl rfl rfl rfl rfl (fun bq1 Ln=>?_);refine fT Ln rfl rfl rfl rfl rfl (fun bq2 gg=>?_);refine fT gg rfl rfl rfl rfl rfl (fun bq3 xZ=>?_);refine oe xZ rfl (uC xZ S8.env.em (fun w' h=>h)) (show CC _ _ _ _ from ⟨fun _ _ _ _ _ _=>rfl,S8.env.sub⟩) rfl rfl rfl (fun bq4 hq4=>?_);refine fT hq4 rfl rfl rfl rfl rfl (fun bq5 hq5=>?_);refine fT hq5 rfl rfl rfl rfl rfl (fun bq6 UP=>?_);refine oe UP rfl UP.rl rfl rfl rfl rfl (fun bq7 hq7=>?_);refine fT hq7 rfl rfl rfl rfl rfl (fun bq8 hq8=>?_);refine Bl (kt:=1) hq8 rfl rfl ⟨rfl,rfl,rfl⟩ ⟨rfl,rfl,rfl⟩ rfl rfl rfl rfl rfl rfl (nj _) ⟨by omega,by omega⟩ SX (fun _ h=>h) rfl (fun bq10 S9=>?_);refine fT S9 rfl rfl rfl rfl rfl (fun bq11 Ps=>?_);refine oe Ps rfl Ps.rl rfl rfl rfl rfl (fun bq12 Ta=>?_);refine fT Ta rfl rfl rfl rfl rfl (fun bq13 Ih=>?_);refine Bl (kt:=1) Ih rfl rfl ⟨rfl,rfl,rfl⟩ ⟨rfl,rfl,rfl⟩ rfl rfl rfl rfl rfl rfl (nj _) ⟨by omega,by omega⟩ LO (fun _ h=>h) rfl (fun bq15 Tb=>?_);refine Bm (kt:=1) Tb rfl rfl ⟨rfl,rfl,rfl⟩ ⟨rfl,rfl,rfl⟩ rfl rfl rfl rfl rfl rfl (Nat.succ_pos 1) rfl rfl rfl (nj _) ⟨by omega,by omega⟩ (fun bq17 Fq17 vq17 Pt Tc=>⟨fun j hj _=>?_,?_⟩)
   ·cases hb:Nat.beq j 4 with
    | true=>exact Pt
    | false=>rw [hb] at hj;cases hj
   refine Bm (kt:=1) Tc rfl rfl ⟨rfl,rfl,rfl⟩ ⟨rfl,rfl,rfl⟩ rfl rfl rfl rfl rfl rfl (Nat.succ_pos 1) rfl rfl rfl (nj _) ⟨by omega,by omega⟩ (fun Td Te Tf UQ Tg=>⟨fun j hj _=>?_,?_⟩)
   ·simp at hj
   refine go_sound 4000 _ _ ?_ Te Td Tf Tg
   have hw1:IntKind.i64.wrap (((ks.length - 1 - e:Nat):Int) - 1)=((ks.length - 1 - (e + 1):Nat):Int):=by
    rw [wrap64 (by omega) (by omega)];omega
   have qW:IntKind.i64.wrap ((e:Int) + 1)=((e + 1:Nat):Int):=by
    rw [wrap64 (by omega) (by omega)];omega
   exact ⟨GB a n s keys ks ks.length (0 + (bf keys).length) (e + 1) (ks.length - 1 - (e + 1)) ((c0.take (e * 6) ++ dRw (.mk xk xa xn xs xw xv) ++ c0.drop (e * 6 + 6)).take ((ks.length - 1 - e) * 6) ++ dRw (.mk yk ya yn ys yw yv) ++ (c0.take (e * 6) ++ dRw (.mk xk xa xn xs xw xv) ++ c0.drop (e * 6 + 6)).drop ((ks.length - 1 - e) * 6 + 6)) ((c1.take (e * 2) ++ ki ⟨us,ua⟩ ++ c1.drop (e * 2 + 2)).take ((ks.length - 1 - e) * 2) ++ ki ⟨vs,va⟩ ++ (c1.take (e * 2) ++ ki ⟨us,ua⟩ ++ c1.drop (e * 2 + 2)).drop ((ks.length - 1 - e) * 2 + 2)),(jx 3 (Hg qW hw1) (q4 qW hw1)),ks.length - 2 * (e + 1),by omega,e + 1,_,_,rfl,Ag,yX,by omega,rfl⟩
  ·rintro ⟨sl,bx,tk⟩ ⟨h1,h2,h3⟩;simp only at h1 h2 h3;subst h1 h2;have Qk:(rtnRs ks).length=ks.length:=kC ks
   refine ⟨⟨[aS 2 1,aS 3 2],[dRw (.mk 5 a n s keys ks),rK,uO 5 a n s (.sl 2 (bf keys.reverse) none) (.sl 6 (dRws (rtnRs ks).reverse) none)],[⟨ks.length,70,6,none⟩,⟨0 + (bf keys).length,34,2,none⟩]⟩,Wk.trans (yY (st:=⟨sl,[dRw (.mk 5 a n s keys ks),rK,uO 5 a n s (nI (0 + (bf keys).length) 1) (nI ks.length 0)],[⟨ks.length,70,6,some (dRws (rtnRs ks).reverse).flatten⟩,⟨0 + (bf keys).length,34,2,some (bf keys.reverse).flatten⟩]⟩) (j:=2) (o:=5) (k:=0) (ns:=dRws (rtnRs ks).reverse) rfl (fun x hx=>by
    rw [dQ] at hx;obtain ⟨y,_,rfl⟩:=List.mem_map.1 hx
    exact mA y) (by rw [fA,List.length_reverse,Qk]) rfl rfl (nj _))
    (Wk.trans (yY (st:=⟨sl,[dRw (.mk 5 a n s keys ks),rK,uO 5 a n s (nI (0 + (bf keys).length) 1) (.sl 6 (dRws (rtnRs ks).reverse) none)],[⟨ks.length,70,6,none⟩,⟨0 + (bf keys).length,34,2,some (bf keys.reverse).flatten⟩]⟩) (j:=2) (o:=4) (k:=1) (ns:=bf keys.reverse) rfl (fun x hx=>by
    obtain ⟨y,_,rfl⟩:=List.mem_map.1 hx
    exact oT y) (by rw [aE,List.length_reverse,wR];omega) rfl rfl (nj _)) (IJ h3)),?_⟩
   exact ⟨_,ax,rfl⟩
end Go.Proofs.YtfdedoiiahbnnaaGreat
set_option maxRecDepth 100000
namespace Go.Proofs.YtfdedoiiahbnnaaGreat
open Go Go.RowKit Dv Go.Proofs.Tryz
abbrev LX (a n:Int) (s:ByteArray):St:=⟨[aS 2 1,aS 3 2,aA 5 0,aA 6 (-1)],[dRw (.mk 5 a n s [] []),rK,uO 5 a n s (.sl 2 [] (some 1)) (.sl 6 [] (some 0))],[⟨0,70,6,none⟩,⟨0,34,2,none⟩]⟩
theorem z6 (a n:Int) (s:ByteArray) :
  bh prog 32 [.agg (dRw (.mk 5 a n s [] []))] (.agg (dRw (.mk 5 a n s [] []))):=by
 refine eG 100 [.cell 2 70] func32 rfl ntmps32 rfl fun _ _ _ _=>?_;refine lI (fun j st=>st=Bi 5 a n s [] [] [] 0 0/\j=0) ⟨rfl,rfl⟩ (fi 3 ⟨0,70,6,none⟩ rfl rfl rfl BB rfl rfl tT) ?_;rintro j st ⟨rfl,rfl⟩;refine ⟨⟨by decide,by decide⟩,?_⟩;refine dI ?_;refine lI (fun j st=>st=LX a n s/\j=0) ⟨rfl,rfl⟩ (cL tT) ?_;rintro j st ⟨rfl,rfl⟩;exact ⟨_,ax,rfl⟩
theorem og:∀ (m:Nat) (r:Rw),oQ r<=m->oQ r<=1099511627776->bh prog 32 [.agg (dRw r)] (.agg (dRw (rtnR r)))
 | 0,v,h,_=>by have:=uS v;omega
 | m + 1,.mk k a n s keys ks,h,hb=>by
  have ih:=og m;have mU:=qK ks;have Mj:=bQ keys;rw [oQ] at h hb
  have ih:∀ x∈ks,bh prog 32 [.agg (dRw x)] (.agg (dRw (rtnR x))):=fun x hx=>by
   have:=qJ hx;exact ih x (by omega) (by omega)
  by_cases hc:k=5/\keys.length=ks.length
  ·obtain ⟨rfl,hc⟩:=hc;by_cases hn:ks=[]
   ·subst hn;have:keys=[]:=List.length_eq_zero_iff.1 hc;subst this;exact z6 a n s
   ·exact zZ a n s keys ks hc hn (by omega) ih
  ·exact uZ k a n s keys ks hc (by omega) (by omega) ih
mutual
theorem Bn:∀ r:Rw,RwB r->RwB (rtnR r)
 | .mk k a n s keys ks,h=>by
  rw [RwB] at h;rw [rtnR];have:=xX ks h.2;split
  ·rw [RwB];refine ⟨by simpa using h.1,?_⟩;generalize rtnRs ks=L at this
   have key:∀ L:List Rw,RwBs L↔∀ x∈L,RwB x:=fun L=>by
    induction L with
    | nil=>simp [RwBs]
    | cons y l ih=>rw [RwBs,ih];simp
   rw [key] at this ⊢;exact fun x hx=>this x (sU hx)
  ·rw [RwB];exact ⟨h.1,this⟩
theorem xX:∀ l:List Rw,RwBs l->RwBs (rtnRs l)
 | [],_=>trivial
 | v :: r,h=>by
  rw [RwBs] at h;rw [rtnRs,RwBs];exact ⟨Bn v h.1,xX r h.2⟩
end
abbrev LY (a:Val) (e:Nat):St:=⟨[aS 2 0,aS 3 1,aA 5 e],[lp a,lp a],[]⟩
theorem oh:∀ (m:Nat) (a:Val),a.wt<=m->a.wt<=1099511627776->bh prog 29 [.agg (lp a),.agg (lp a)] (.v (.bool true))
 | 0,v,h,_=>by have:=v.gz;omega
 | m + 1,.mk k n s ks,h,hb=>by
  have ih:=oh m;rw [Val.wt] at h hb
  have hs:∀ x∈ks,bh prog 29 [.agg (lp x),.agg (lp x)] (.v (.bool true)):=fun x hx=>by
   have:=xr hx;exact ih x (by omega) (by omega)
  have hl:=xu ks;have sm:=iw ks;refine eG 53 [.tmp 4] func29 rfl ntmps29 rfl fun _ _ _ _=>?_;refine br (fun c=>absurd c (by simp [aF])) (fun _=>?_);refine lJ (fun e=>LY (.mk k n s ks) e) ks.length (cL tT) ?_;intro e he;refine br ?_ ?_<;>intro hL
  ·have av:e < ks.length:=sV sm hL;obtain ⟨x,hx⟩:=gX av;have QJ:=hs x (mG hx);obtain ⟨xk,xn,xs,xl⟩:=x;refine dI ?_;refine iX (tf hx) ?_;refine iX (tf hx) ?_;refine cD DZ QJ ?_;exact rE ⟨_,by omega,e + 1,rfl,by omega,rfl⟩ (cL (iF (bV av (by omega))))
  ·exact (rfl:_=_)
set_option maxHeartbeats 8000000 in
theorem order24_law (S:Sch) (hS:S.wt<=1099511627776) (_:N7 S) (r:Rw) (hr0:oQ r<=1099511627776):bh prog 8 [.agg (yN S),.agg (dRw r)] (.v (.bool true)):=by
 have ga:=uE S hS;have hb:=(qy S hS).mono (Ψ:=fun r _ _=>zx S r) fun _ _ _ h=>td hS h;have G8:=oc _ r (bd _) hr0;have Ql:=F8 r hr0;have ht:=og _ r (bd _) hr0;have hTB:=Bn r Ql;have lA:=fun ND=>JX (ND:=ND) _ r (bd _);generalize ((ji r:Nat):Int)=cr at G8;generalize rJ r=dr at G8;refine eG 99 [.tmp 4] func8 rfl ntmps8 rfl fun _ _ _ _=>?_;obtain ⟨ae,order,types,⟨rh,rp⟩⟩:=S;obtain ⟨rk,ra,rn,rs,rq,rl⟩:=r;refine cP MZ G8 ?_;refine br ?_ ?_<;>intro c
 rotate_left
 ·refine cP DY eO ?_;exact (rfl:_=_)
 refine gV QX rfl ga ax (fun r hr=>?_);obtain ⟨g,rfl⟩:=hr
 cases g with
 | true=>
  refine cP DY eO ?_;exact (rfl:_=_)
 | false=>
 refine gV MY rfl hb ax (fun r hr=>?_);rcases hr with ⟨hr,rfl⟩ | ⟨_,PC,hP,rfl⟩
 ·generalize lm ⟨ae,order,types,.mk rh rp⟩=R at hr ⊢;obtain ⟨R1,R2⟩:=R;simp only at hr;refine br (fun _=>?_) (fun g=>absurd g (by simp [hr]));refine cP DY eO ?_;exact (rfl:_=_)
 have nY:=hP.root;have fL:=hP.ok;have hc1:=eN hP _ (Rw.mk rk ra rn rs rq rl) (bd _) Ql (dj ⟨ae,order,types,.mk rh rp⟩);have jC:=eN hP _ (rtnR (Rw.mk rk ra rn rs rq rl)) (bd _) hTB (dj ⟨ae,order,types,.mk rh rp⟩);have yc:=eN hP _ (Rw.mk rk 9 rn rs rq rl) (bd _) (by rw [RwB] at Ql ⊢;exact Ql) (dj ⟨ae,order,types,.mk rh rp⟩);have OD:=lA (cu ⟨ae,order,types,.mk rh rp⟩) (dj ⟨ae,order,types,.mk rh rp⟩);have key:=C7 fL rk ra 9 rn rs rq rl (dj ⟨ae,order,types,.mk rh rp⟩);simp only at key;generalize dj ⟨ae,order,types,.mk rh rp⟩=rt at *;generalize ckV (cu ⟨ae,order,types,.mk rh rp⟩) (.mk rk ra rn rs rq rl) rt=X at hc1 OD key;generalize ckV (cu ⟨ae,order,types,.mk rh rp⟩) (rtnR (.mk rk ra rn rs rq rl)) rt=Y at jC key;generalize ckV (cu ⟨ae,order,types,.mk rh rp⟩) (.mk rk 9 rn rs rq rl) rt=Z at yc key;obtain ⟨⟨Xk,Xn,Xs,Xl⟩,Xe,Xa⟩:=X;obtain ⟨Yv,Ye,Ya⟩:=Y;obtain ⟨Zv,Ze,Za⟩:=Z;obtain ⟨k1,k2,k3,k4,k5⟩:=key;simp only at k1 k2 k3 k4 k5 OD;subst k2 k4 k3;have Km:=oh _ (.mk Xk Xn Xs Xl) (bd _) (by omega);generalize rtnR (Rw.mk rk ra rn rs rq rl)=T at ht jC;obtain ⟨tk,ta,tn,ts,tq,tl⟩:=T;apply gJ (.op 0 (.op 1 (.op 3 (.ev 2 (.ev 4 (.op 5 (.op 6 (.op 7 (.ev 8 (.ev 9 (.ev 10 (.ev 11 .fin .stop) .stop) .stop) (.ev 9 (.ev 8 (.ev 10 (.ev 11 .fin .stop) .stop) .stop) .stop))))) (.ev 8 (.ev 4 (.op 5 (.op 6 (.op 7 (.ev 9 (.ev 10 (.ev 11 .fin .stop) .stop) .stop)))) (.ev 9 (.ev 4 (.op 5 (.op 6 (.op 7 (.ev 10 (.ev 11 .fin .stop) .stop)))) .stop) .stop)) (.ev 9 (.ev 4 (.op 5 (.op 6 (.op 7 (.ev 8 (.ev 10 (.ev 11 .fin .stop) .stop) .stop)))) (.ev 8 (.ev 4 (.op 5 (.op 6 (.op 7 (.ev 10 (.ev 11 .fin .stop) .stop)))) .stop) .stop)) .stop))) (.ev 8 (.ev 2 (.ev 4 (.op 5 (.op 6 (.op 7 (.ev 9 (.ev 10 (.ev 11 .fin .stop) .stop) .stop)))) (.ev 9 (.ev 4 (.op 5 (.op 6 (.op 7 (.ev 10 (.ev 11 .fin .stop) .stop)))) .stop) .stop)) (.ev 9 (.ev 2 (.ev 4 (.op 5 (.op 6 (.op 7 (.ev 10 (.ev 11 .fin .stop) .stop)))) .stop) .stop) .stop)) (.ev 9 (.ev 2 (.ev 4 (.op 5 (.op 6 (.op 7 (.ev 8 (.ev 10 (.ev 11 .fin .stop) .stop) .stop)))) (.ev 8 (.ev 4 (.op 5 (.op 6 (.op 7 (.ev 10 (.ev 11 .fin .stop) .stop)))) .stop) .stop)) (.ev 8 (.ev 2 (.ev 4 (.op 5 (.op 6 (.op 7 (.ev 10 (.ev 11 .fin .stop) .stop)))) .stop) .stop) .stop)) .stop)))))) 3 4 mo (by decide +kernel);·repeat' (first | refine cD Hu nY ?_ | refine cD vU hc1 ?_ | exact Or.inl (Or.inl rfl) | exact Or.inl mw | exact CJ | exact trivial | exact Or.inl (Or.inl rfl) | exact Or.inl mw | exact zt | refine ⟨?_,?_⟩)
 ·exact (rfl:_=_)
 apply gJ (.op 0 (.op 1 (.op 3 (.ev 2 (.ev 4 (.ev 5 (.op 6 (.op 7 (.op 8 (.ev 9 (.ev 10 (.ev 11 (.ev 12 .fin .stop) .stop) .stop) (.ev 10 (.ev 9 (.ev 11 (.ev 12 .fin .stop) .stop) .stop) .stop))))) (.ev 9 (.ev 5 (.op 6 (.op 7 (.op 8 (.ev 10 (.ev 11 (.ev 12 .fin .stop) .stop) .stop)))) (.ev 10 (.ev 5 (.op 6 (.op 7 (.op 8 (.ev 11 (.ev 12 .fin .stop) .stop)))) .stop) .stop)) (.ev 10 (.ev 5 (.op 6 (.op 7 (.op 8 (.ev 9 (.ev 11 (.ev 12 .fin .stop) .stop) .stop)))) (.ev 9 (.ev 5 (.op 6 (.op 7 (.op 8 (.ev 11 (.ev 12 .fin .stop) .stop)))) .stop) .stop)) .stop))) (.ev 9 (.ev 4 (.ev 5 (.op 6 (.op 7 (.op 8 (.ev 10 (.ev 11 (.ev 12 .fin .stop) .stop) .stop)))) (.ev 10 (.ev 5 (.op 6 (.op 7 (.op 8 (.ev 11 (.ev 12 .fin .stop) .stop)))) .stop) .stop)) (.ev 10 (.ev 4 (.ev 5 (.op 6 (.op 7 (.op 8 (.ev 11 (.ev 12 .fin .stop) .stop)))) .stop) .stop) .stop)) (.ev 10 (.ev 4 (.ev 5 (.op 6 (.op 7 (.op 8 (.ev 9 (.ev 11 (.ev 12 .fin .stop) .stop) .stop)))) (.ev 9 (.ev 5 (.op 6 (.op 7 (.op 8 (.ev 11 (.ev 12 .fin .stop) .stop)))) .stop) .stop)) (.ev 9 (.ev 4 (.ev 5 (.op 6 (.op 7 (.op 8 (.ev 11 (.ev 12 .fin .stop) .stop)))) .stop) .stop) .stop)) .stop))) (.ev 9 (.ev 2 (.ev 4 (.ev 5 (.op 6 (.op 7 (.op 8 (.ev 10 (.ev 11 (.ev 12 .fin .stop) .stop) .stop)))) (.ev 10 (.ev 5 (.op 6 (.op 7 (.op 8 (.ev 11 (.ev 12 .fin .stop) .stop)))) .stop) .stop)) (.ev 10 (.ev 4 (.ev 5 (.op 6 (.op 7 (.op 8 (.ev 11 (.ev 12 .fin .stop) .stop)))) .stop) .stop) .stop)) (.ev 10 (.ev 2 (.ev 4 (.ev 5 (.op 6 (.op 7 (.op 8 (.ev 11 (.ev 12 .fin .stop) .stop)))) .stop) .stop) .stop) .stop)) (.ev 10 (.ev 2 (.ev 4 (.ev 5 (.op 6 (.op 7 (.op 8 (.ev 9 (.ev 11 (.ev 12 .fin .stop) .stop) .stop)))) (.ev 9 (.ev 5 (.op 6 (.op 7 (.op 8 (.ev 11 (.ev 12 .fin .stop) .stop)))) .stop) .stop)) (.ev 9 (.ev 4 (.ev 5 (.op 6 (.op 7 (.op 8 (.ev 11 (.ev 12 .fin .stop) .stop)))) .stop) .stop) .stop)) (.ev 9 (.ev 2 (.ev 4 (.ev 5 (.op 6 (.op 7 (.op 8 (.ev 11 (.ev 12 .fin .stop) .stop)))) .stop) .stop) .stop) .stop)) .stop)))))) 5 6 mo (by decide +kernel);·repeat' (first | refine cD Hu nY ?_ | refine cD KP ht ?_ | refine cD vU jC ?_ | exact Or.inl (Or.inl rfl) | exact Or.inl mw | exact CJ | exact trivial | exact Or.inl (Or.inl rfl) | exact Or.inl mw | exact zt | refine ⟨?_,?_⟩)
 ·exact (rfl:_=_)
 apply gJ (.op 0 (.op 1 (.op 3 (.ev 2 (.ev 4 (.op 5 (.op 6 (.op 7 (.ev 8 (.ev 9 (.ev 10 (.ev 11 .fin .stop) .stop) .stop) (.ev 9 (.ev 8 (.ev 10 (.ev 11 .fin .stop) .stop) .stop) .stop))))) (.ev 8 (.ev 4 (.op 5 (.op 6 (.op 7 (.ev 9 (.ev 10 (.ev 11 .fin .stop) .stop) .stop)))) (.ev 9 (.ev 4 (.op 5 (.op 6 (.op 7 (.ev 10 (.ev 11 .fin .stop) .stop)))) .stop) .stop)) (.ev 9 (.ev 4 (.op 5 (.op 6 (.op 7 (.ev 8 (.ev 10 (.ev 11 .fin .stop) .stop) .stop)))) (.ev 8 (.ev 4 (.op 5 (.op 6 (.op 7 (.ev 10 (.ev 11 .fin .stop) .stop)))) .stop) .stop)) .stop))) (.ev 8 (.ev 2 (.ev 4 (.op 5 (.op 6 (.op 7 (.ev 9 (.ev 10 (.ev 11 .fin .stop) .stop) .stop)))) (.ev 9 (.ev 4 (.op 5 (.op 6 (.op 7 (.ev 10 (.ev 11 .fin .stop) .stop)))) .stop) .stop)) (.ev 9 (.ev 2 (.ev 4 (.op 5 (.op 6 (.op 7 (.ev 10 (.ev 11 .fin .stop) .stop)))) .stop) .stop) .stop)) (.ev 9 (.ev 2 (.ev 4 (.op 5 (.op 6 (.op 7 (.ev 8 (.ev 10 (.ev 11 .fin .stop) .stop) .stop)))) (.ev 8 (.ev 4 (.op 5 (.op 6 (.op 7 (.ev 10 (.ev 11 .fin .stop) .stop)))) .stop) .stop)) (.ev 8 (.ev 2 (.ev 4 (.op 5 (.op 6 (.op 7 (.ev 10 (.ev 11 .fin .stop) .stop)))) .stop) .stop) .stop)) .stop)))))) 7 8 mo (by decide +kernel);·repeat' (first | refine cD Hu nY ?_ | refine cD vU yc ?_ | exact Or.inl (Or.inl rfl) | exact Or.inl mw | exact CJ | exact trivial | exact Or.inl (Or.inl rfl) | exact Or.inl mw | exact zt | refine ⟨?_,?_⟩)
 ·exact (rfl:_=_)
 by_cases hX:Xe=0
 ·have hY:=k1.1 hX;have hk:0 < Xk:=k5 hX;clear k1 k5;subst hX hY
  try refine br (fun _=>?_) (fun g=>absurd g (by simp [pickB]))
  refine cP DZ Km ?_
  try refine br (fun _=>?_) (fun g=>absurd g (by simp [pickB]))
  refine cP DZ Km ?_;refine br (fun _=>?_) (fun g=>absurd g (by simp [pickB,hk]));refine cP DY eO ?_;exact (rfl:_=_)
 ·have hY:¬ Ye=0:=fun h=>hX (k1.2 h);refine br (fun _=>?_) (fun g=>absurd g (by simp [pickB,hX,hY]));refine cP DZ Km ?_
  try refine br (fun _=>?_) (fun g=>absurd g (by simp [pickB,hX,hY]))
  refine cP DZ Km ?_;refine br (fun _=>?_) (fun g=>absurd g (by simp [pickB,hX]));refine cP DY eO ?_;exact (rfl:_=_)
end Go.Proofs.YtfdedoiiahbnnaaGreat
