/- Part 7 of the proof: Readers of tokens: the program's parts; Readers of tokens: the document's Fine, Is, Wrong, On, Need, Mark, May, Any, Name; Readers of tokens: the document's label, number, coarse, marks; Readers of tokens: the document's marks; Readers of tokens: the document's names, part, parts; The reader of schemas: a list of which none may be there; parts; The reader of schemas: parts; a list of names onto a type; The reader of schemas: what stands behind a type's word; The reader of schemas: types; chains; The reader of schemas: a schema; Readers of tokens: the document's Kind; Readers of tokens: the document's order; Readers of tokens: the document's schema, Parse; The library's copyCheck of strings.Builder, laid at this program; The library's Builder at this program: what WriteString and String do to memory, exactly; Rules for the evaluator: the library's Builder, written and read; Rules for the evaluator: the library's Builder: WriteByte, WriteString of any text; a call that is handed a Builder; Texts in quotes: plain; numbers in sixteens; Escapes: plain; numbers in sixteens; UTF-8: the program's Scalar, Encode; Texts in quotes: numbers in sixteens, which runes may steer a terminal; Texts in quotes: short escapes, kinds of runes; Escapes: the program's scalar, One, plain; Escapes: the program's One, plain; Rules for the evaluator: String of a Builder that holds nothing; String of a Builder of one's own, where other objects are kept; Texts in quotes that are read: plain; the program's Unquote. No condition. -/
import Derived.Shelf.Strings.OnBuilder
import Derived.Shelf.RegionOpenPlain
import Derived.Lib.Strings
import Derived.Lib.Slices
import Derived.Lib.Walk
import Derived.Lib.Builder
import Derived.Lib.AppendStr
import Derived.Lib.UnsafeStr
import Derived.WalkKit
import Derived.Laws.Externs
import Derived.Lib.Hide
import Derived.Test.YtfdedoiiahbnnaaGreatNd3
import Derived.Test.YtfdedoiiahbnnaaGreatNd4
import Derived.Test.YtfdedoiiahbnnaaGreatNd5
import Derived.Test.YtfdedoiiahbnnaaGreatNd6
set_option linter.all false
set_option maxRecDepth 100000
namespace Go.Proofs.YtfdedoiiahbnnaaGreat
open Go Go.RowKit Dv Go.Proofs.Tryz
abbrev GJ (n:Nat):List DV:=[.sl 0 (List.replicate n []) (some 0)]
abbrev JU (n:Nat) (cs:List DV):TkE:=⟨n,133,18,some cs⟩
abbrev uN:List Value:=[.string ⟨#[]⟩,.int .i64 0,.bool false,.slice none 0 0,.int .i64 0,.int .i64 0,.int .i64 0,.int .i64 0,.slice none 0 0,.int .i64 0,.int .i64 0,.int .i64 0,.int .i64 0,.int .i64 0,.slice none 0 0,.slice none 0 0,.string ⟨#[]⟩,.int .i64 0]
theorem IY (g:Nat) (gY:Enters prog g) (c C1:au) (x:Ph) (t:Ty) (jW:Ev prog g [iQ] [aH c] [] (kV (.agg (kv x (cL t))) C1)) (n:Nat) (hn:n<=274877906945) (cs:List DV) (cx:cs.length=n * 18) :
  Ev prog 338 [.loc 3 0,.loc 2 0] [aH c,mL,[.fn g [iQ] []],GJ n] [JU n cs] (fun r os tk=>r = .bo []/\os=[aH C1,mL,[.fn g [iQ] []],GJ (n + 1)]/\tk=[JU (n + 1) (cs ++ kv x (cL t))]):=by
 obtain ⟨th,tp⟩:=t;obtain ⟨⟨ns,na⟩,bare,lb,wide,ck,cn,ca,cl⟩:=x;obtain ⟨l,p,d,f1,f2⟩:=c;obtain ⟨l1,p1,d1,f11,f21⟩:=C1;refine eG 9 [] func338 rfl ntmps338 rfl fun _ _ _ _=>?_
 have hE:(cs ++ [vL uN].flatten).take (((List.replicate n ([]:List DV)).length:Int).toNat * 18) ++ kv ⟨⟨ns,na⟩,bare,lb,wide,ck,cn,ca,cl⟩ (cL (.mk th tp)) ++ (cs ++ [vL uN].flatten).drop (((List.replicate n ([]:List DV)).length:Int).toNat * 18 + 18)=cs ++ kv ⟨⟨ns,na⟩,bare,lb,wide,ck,cn,ca,cl⟩ (cL (.mk th tp)):=by
  have hz : [vL uN].flatten.length=18:=rfl;rw [List.length_replicate,dV,List.take_left' cx,List.drop_eq_nil_of_le (by rw [List.length_append,hz];omega),List.append_nil]
 refine drawG_2 (fun i _=>Nat.beq i 5 || Nat.beq i 7 || Nat.beq i 8) (.op 0 (.op 1 (.op 3 (.ev 2 (.ev 4 (.ev 5 (.op 6 (.ev 7 (.ev 8 .fin .stop) (.ev 8 (.ev 7 .fin .stop) .stop))) .stop) .stop) (.ev 4 (.ev 2 (.ev 5 (.op 6 (.ev 7 (.ev 8 .fin .stop) (.ev 8 (.ev 7 .fin .stop) .stop))) .stop) .stop) .stop))))) mo (by decide +kernel) (fun Ep ap wp hp=>⟨fun _ w'=>CC Ep [[],mL,[.fn g [iQ] []],GJ n] wp w',?_⟩);have Vx:yd Ep [[],mL,[.fn g [iQ] []],GJ n] wp:=NF hp.env [0];refine ZP hp rfl (FG hp Vx (fun w' h=>h)) ⟨fun _ _ _ _ _ _=>rfl,hp.env.sub⟩ rfl rfl rfl (fun a0 h0=>?_);refine ZP h0 rfl (FG h0 Vx (fun w' h=>h)) ⟨fun _ _ _ _ _ _=>rfl,hp.env.sub⟩ rfl rfl rfl (fun a1 h1=>?_);refine ahf h1 rfl rfl rfl rfl rfl (fun a3 h3=>?_);refine Oe h3 rfl rfl rfl rfl rfl gY 1 0 rfl rfl av av jW rfl rfl (fun v r Zj Zi E2 w2 hΦ _ _ hR2 QW GC hβ2 ho2=>?_) ?_
 ·obtain ⟨rfl,rfl,rfl⟩:=hΦ;refine ⟨fun j _ hC=>⟨fun i b cs' hb cx bF=>?_,fun x u hx=>hR2.env.sub x u (GC.c x u hx)⟩,?_⟩
  ·match i,cx with
   | 0,cx=>exact absurd (Option.some.inj cx).symm bF
   | i + 1,cx=>rw [ho2 (i + 1) b (by omega) hb]
  have h2:=bu hR2 (show fU _ _ (some 4)=true from rfl) _ v QW;refine UD h2 rfl rfl (Ux uN rfl rfl rfl rfl rfl rfl) (fun a4 E4 w4 hR4 IZ=>⟨fun j _ hC=>⟨fun i b cs' hb cx bF=>?_,fun x u hx=>hR4.env.sub x u (IZ.x.c x u (GC.c x u hx))⟩,?_⟩) trivial
  ·rw [IZ.o i b (by rw [hβ2];exact hb) (by simp)];exact hC.o i b cs' hb cx bF
  refine Od (S':=⟨[(7,⟨[],.sl 0 (List.replicate (n + 1) []) (some 0)⟩),(6,⟨[],.sl 18 [vL uN] (some 1)⟩),(4,⟨[],.agg (kv ⟨⟨ns,na⟩,bare,lb,wide,ck,cn,ca,cl⟩ (cL (.mk th tp)))⟩),aC 5 ((List.replicate n ([]:List DV)).length),(3,⟨[],.fn g [iQ] []⟩),(2,⟨[],.sl 0 (List.replicate n []) (some 0)⟩),aJ 0 3,aJ 1 2],[aH ⟨l1,p1,d1,f11,f21⟩,mL,[.fn g [iQ] []],GJ n],[JU (n + 1) (cs ++ [vL uN].flatten),⟨1,133,18,none⟩]⟩) hR4 rfl rfl rfl rfl ?_ (fun a5 E5 w5 hR5 hst5=>⟨fun j hj=>(by cases hj),?_⟩) trivial
  ·exact ⟨⟨⟨by simp,by simp⟩,by simp [maxLen];omega,by simp;omega⟩,rfl⟩
  refine UE (kt:=0) hR5 (fun _=>rfl) (fun _=>rfl) rfl rfl rfl ⟨rfl,rfl,rfl⟩ ⟨rfl,rfl,rfl⟩ ⟨rfl,rfl,rfl⟩ rfl rfl rfl (fun _=>rfl) rfl rfl (Nat.succ_pos 17) (fun _=>rfl) (fun _=>rfl) rfl rfl rfl rfl rfl rfl (by simp) ⟨by simp,by simp;omega⟩ ?_;exact ⟨.bo [],[aH ⟨l1,p1,d1,f11,f21⟩,mL,[.fn g [iQ] []],GJ (n + 1)],av,av,rfl,rfl,congrArg (fun z=>[JU (n + 1) z]) hE⟩
 ·refine UD h3 rfl rfl (Ux uN rfl rfl rfl rfl rfl rfl) (fun a4 E4 w4 hR4 IZ=>⟨fun j _ hC=>⟨fun i b cs' hb cx bF=>?_,fun x u hx=>hR4.env.sub x u (IZ.x.c x u hx)⟩,?_⟩) trivial
  ·rw [IZ.o i b hb (by simp)]
  obtain ⟨rβ,hβ4⟩:=IZ.β;refine Oe hR4 rfl rfl rfl rfl rfl gY 1 0 rfl rfl av av jW rfl rfl (fun v r Zj Zi E2 w2 hΦ _ _ hR2 QW GC hβ2 ho2=>?_) trivial;obtain ⟨rfl,rfl,rfl⟩:=hΦ;refine ⟨fun j _ hC=>⟨fun i b cs' hb cx bF=>?_,fun x u hx=>hR2.env.sub x u (GC.c x u (IZ.x.c x u hx))⟩,?_⟩
  ·match i,cx with
   | 0,cx=>exact absurd (Option.some.inj cx).symm bF
   | i + 1,cx=>
    rw [ho2 (i + 1) b (by omega) (IZ.x.β (i + 1) b hb)];exact hC.o (i + 1) b cs' hb cx bF
  have h2:=bu hR2 (show fU _ _ (some 4)=true from rfl) _ v QW;refine Od (S':=⟨[(7,⟨[],.sl 0 (List.replicate (n + 1) []) (some 0)⟩),(4,⟨[],.agg (kv ⟨⟨ns,na⟩,bare,lb,wide,ck,cn,ca,cl⟩ (cL (.mk th tp)))⟩),(6,⟨[],.sl 18 [vL uN] (some 1)⟩),aC 5 ((List.replicate n ([]:List DV)).length),(3,⟨[],.fn g [iQ] []⟩),(2,⟨[],.sl 0 (List.replicate n []) (some 0)⟩),aJ 0 3,aJ 1 2],[aH ⟨l1,p1,d1,f11,f21⟩,mL,[.fn g [iQ] []],GJ n],[JU (n + 1) (cs ++ [vL uN].flatten),⟨1,133,18,none⟩]⟩) h2 rfl rfl rfl rfl ?_ (fun a5 E5 w5 hR5 hst5=>⟨fun j hj=>(by cases hj),?_⟩) trivial
  ·exact ⟨⟨⟨by simp,by simp⟩,by simp [maxLen];omega,by simp;omega⟩,rfl⟩
  refine UE (kt:=0) hR5 (fun _=>rfl) (fun _=>rfl) rfl rfl rfl ⟨rfl,rfl,rfl⟩ ⟨rfl,rfl,rfl⟩ ⟨rfl,rfl,rfl⟩ rfl rfl rfl (fun _=>rfl) rfl rfl (Nat.succ_pos 17) (fun _=>rfl) (fun _=>rfl) rfl rfl rfl rfl rfl rfl (by simp) ⟨by simp,by simp;omega⟩ ?_;exact ⟨.bo [],[aH ⟨l1,p1,d1,f11,f21⟩,mL,[.fn g [iQ] []],GJ (n + 1)],av,av,rfl,rfl,congrArg (fun z=>[JU (n + 1) z]) hE⟩
theorem cj (q:RS):aR prog 97 [.agg (jD q)] (.v (.bool (decide (q.2.1=0)))):=by
 obtain ⟨l,f1,f2⟩:=q;refine eG 7 [.tmp 2] func97 rfl ntmps97 rfl fun _ _ _ _=>?_;exact (rfl:_=_)
theorem Qo (t:gZ) (r:List gZ) (f:Ft) (k:Int) (s:ByteArray):aR prog 179 [.agg (jD (t :: r,f)),.v (.int .i64 k),.v (.string s)] (.v (.bool (RS.is (t :: r,f) k s))):=by
 have hI:RS.is (t :: r,f) k s=(decide (t.k=k) && decide (t.s=s)):=rfl;rw [hI];obtain ⟨f1,f2⟩:=f;obtain ⟨tk,ta,te,ts,tn⟩:=t;refine eG 23 [.tmp 6] func179 rfl ntmps179 rfl fun _ _ _ _=>?_;refine ⟨_,⟨by omega,rfl⟩,?_⟩;refine br ?_ ?_<;>intro g
 ·have g:tk=k:=sU g;refine ⟨_,⟨by omega,rfl⟩,?_⟩;refine congrArg (fun z=>DV.v (Value.bool z)) ?_;rw [decide_eq_true g];rfl
 ·have g:¬ tk=k:=sU g;refine congrArg (fun z=>DV.v (Value.bool z)) ?_;simp [g]
theorem Qp (t:gZ) (r:List gZ) (f:Ft):aR prog 180 [.agg (jD (t :: r,f))] (.agg (jD (r,f))):=by
 obtain ⟨f1,f2⟩:=f;have hl:(er (t :: r)).length=(er r).length + 1:=rfl;refine eG 9 [.cell 2 167] func180 rfl ntmps180 rfl fun _ _ _ _=>?_;refine aE [1] (fun _=>false) mo (by decide +kernel) ?_;refine ⟨⟨by omega,by simp only [hl];omega,by omega⟩,?_⟩
 have hX:∀ bx N,CcE bx N (er r) (List.drop (Int.toNat 1) (List.take ((er (t :: r)).length:Int).toNat (er (t :: r)))):=fun bx N=>by
  rw [dV,List.take_length];exact fK _
 exact ⟨_,(o9 hX),rfl⟩
theorem kJ (q:RS) (h:bP q):aR prog 184 [.agg (jD q)] (.agg (jD q.wr)):=by
 have hW:q.wr=if q.2.1=0 then (q.1,(if q.hd.k=0 then 5 else 4,q.hd.a)) else q:=rfl
 have hc:=h.cons;generalize q.wr=W at hW ⊢;generalize q.hd=t at hW hc;obtain ⟨l,f1,f2⟩:=q;simp only at hW hc;refine eG 25 [.cell 2 167] func184 rfl ntmps184 rfl fun _ _ _ _=>?_;refine br ?_ ?_<;>intro g
 ·have g:¬ f1=0:=sU g;rw [af g] at hW;subst hW;exact ⟨_,ax,rfl⟩
 ·have g:f1=0:=sU g;rw [zIfP g] at hW;obtain ⟨t',r,rfl,rfl⟩:=hc g;obtain ⟨tk,ta,te,ts,tn⟩:=t;simp only at hW;refine ⟨_,⟨by omega,rfl⟩,?_⟩;refine br ?_ ?_<;>intro g
  ·have g:tk=0:=sU g;rw [zIfP g] at hW;subst hW;refine aE [1] (fun _=>false) mo (by decide +kernel) ?_;refine ⟨_,⟨by omega,rfl⟩,?_⟩;exact ⟨_,ax,rfl⟩
  ·have g:¬ tk=0:=sU g;rw [af g] at hW;subst hW;refine aE [1] (fun _=>false) mo (by decide +kernel) ?_;refine ⟨_,⟨by omega,rfl⟩,?_⟩;exact ⟨_,ax,rfl⟩
theorem jl (q:RS) (h:bP q) (h0:q.2.1=0):aR prog 180 [.agg (jD q)] (.agg (jD q.on)):=by
 obtain ⟨t,r,h1,h2⟩:=h.cons h0;obtain ⟨l,f⟩:=q;simp only at h1;subst h1;exact Qp t r f
theorem nR (q:RS) (h:bP q) (h0:q.2.1=0) (k:Int) (s:ByteArray):aR prog 179 [.agg (jD q),.v (.int .i64 k),.v (.string s)] (.v (.bool (q.is k s))):=by
 obtain ⟨t,r,h1,h2⟩:=h.cons h0;obtain ⟨l,f⟩:=q;simp only at h1;subst h1;exact Qo t r f k s
theorem eL (q:RS) (h:bP q) (k:Int) (s:ByteArray):aR prog 96 [.agg (jD q),.v (.int .i64 k),.v (.string s)] (.agg (jD (q.ah k s))):=by
 have hW:q.ah k s=if q.2.1=0 then (if q.is k s=true then q.on else q.wr) else q:=rfl
 have h1:=cj q;have h2:=nR q h;have h3:=jl q h;have h4:=kJ q h;generalize q.ah k s=W at hW ⊢;have h2:=fun h0=>h2 h0 k s;generalize q.is k s=B at hW h2;generalize q.on=O at hW h3;generalize q.wr=R at hW h4;obtain ⟨l,f1,f2⟩:=q;obtain ⟨ol,pA,ph⟩:=O;obtain ⟨rl,rf1,rf2⟩:=R;simp only at hW h2 h3;by_cases h0:f1=0
 ·rw [zIfP h0] at hW;have h2:=h2 h0;have h3:=h3 h0;rw [decide_eq_true h0] at h1;refine eG 20 [.cell 6 167] func96 rfl ntmps96 rfl fun _ _ _ _=>?_;refine cP gI h1 ?_;refine cP rA h2 ?_
  cases B with
  | true=>
   rw [zIfP rfl] at hW;subst hW;refine cP pI h3 ?_;exact ⟨_,ax,rfl⟩
  | false=>
   rw [af (by simp)] at hW;subst hW;refine cP MV h4 ?_;exact ⟨_,ax,rfl⟩
 ·rw [af h0] at hW;subst hW;rw [decide_eq_false h0] at h1;refine eG 20 [.cell 6 167] func96 rfl ntmps96 rfl fun _ _ _ _=>?_;refine cP gI h1 ?_;exact ⟨_,ax,rfl⟩
theorem bg (q:RS) (h:bP q) (s:ByteArray):aR prog 177 [.agg (jD q),.v (.string s)] (.agg (jD (q.ah 4 s))):=by
 have h1:=eL q h 4 s;generalize q.ah 4 s=W at h1 ⊢;obtain ⟨l,f1,f2⟩:=q;obtain ⟨ol,pA,ph⟩:=W;refine eG 8 [.cell 4 167] func177 rfl ntmps177 rfl fun _ _ _ _=>?_;refine cP yg h1 ?_;exact ⟨_,ax,rfl⟩
theorem bX (q:RS) (h:bP q) (s:ByteArray):aR prog 264 [.agg (jD q),.v (.string s)] (.bo [.agg (jD (q.may s)),.v (.bool (q.dZ s))]):=by
 have hW:q.may s=if q.dZ s=true then q.on else q:=rfl
 have hB:q.dZ s=(decide (q.2.1=0) && q.is 4 s):=rfl;have h1:=cj q;have h2:=fun h0=>nR q h h0 4 s;have h3:=jl q h;generalize q.may s=W at hW ⊢;generalize q.dZ s=M at hW hB ⊢;generalize q.is 4 s=B at hB h2;generalize q.on=O at hW h3;obtain ⟨l,f1,f2⟩:=q;obtain ⟨ol,pA,ph⟩:=O;simp only at hW h2 h3 hB;by_cases h0:f1=0
 ·have h2:=h2 h0;have h3:=h3 h0;rw [decide_eq_true h0] at h1 hB;refine eG 16 [.cell 4 167,.tmp 5] func264 rfl ntmps264 rfl fun _ _ _ _=>?_;refine cP gI h1 ?_;refine cP rA h2 ?_
  cases B with
  | true=>
   obtain rfl:M=true:=hB;rw [zIfP rfl] at hW;subst hW;refine cP pI h3 ?_;exact ⟨_,ax,rfl⟩
  | false=>
   obtain rfl:M=false:=hB;rw [af (by simp)] at hW;subst hW;exact ⟨_,ax,rfl⟩
 ·rw [decide_eq_false h0] at h1 hB;obtain rfl:M=false:=hB;rw [af (by simp)] at hW;subst hW;refine eG 16 [.cell 4 167,.tmp 5] func264 rfl ntmps264 rfl fun _ _ _ _=>?_;refine cP gI h1 ?_;exact ⟨_,ax,rfl⟩
theorem iD (q:RS) (h:bP q) (k:Int):aR prog 265 [.agg (jD q),.v (.int .i64 k)] (.bo [.agg (tT (q.lP k)),.agg (jD (q.any k))]):=by
 have hT:q.lP k=if q.A9 k=true then q.hd else jb 0:=rfl
 have hW:q.any k=if q.A9 k=true then q.on else q.wr:=rfl
 have hB:q.A9 k=(decide (q.2.1=0) && decide (q.hd.k=k)):=rfl;have hR:¬ q.2.1=0->q.wr=q:=fun h0=>by rw [RS.wr,af h0]
 have hc:=h.cons;have h1:=cj q;have h3:=jl q h;have h4:=kJ q h;generalize q.lP k=T at hT ⊢;generalize q.any k=W at hW ⊢;generalize q.A9 k=B at hW hB hT;generalize q.on=O at hW h3;generalize q.wr=R at hW h4 hR;generalize q.hd=t at hT hB hc;obtain ⟨l,f1,f2⟩:=q;obtain ⟨ol,pA,ph⟩:=O;obtain ⟨rl,rf1,rf2⟩:=R;simp only at hW h3 hB hR hc;by_cases h0:f1=0
 ·have h3:=h3 h0;rw [decide_eq_true h0] at h1 hB;obtain ⟨t',r,rfl,rfl⟩:=hc h0;obtain ⟨tk,ta,te,ts,tn⟩:=t;refine eG 27 [.cell 4 218,.cell 5 167] func265 rfl ntmps265 rfl fun _ _ _ _=>?_;refine cP gI h1 ?_;refine ⟨_,⟨by omega,rfl⟩,?_⟩;by_cases hk:tk=k
  ·obtain rfl:B=true:=by rw [hB];simp [hk]
   rw [zIfP rfl] at hW hT;subst hW hT;refine br (fun g=>absurd hk (sU g)) (fun _=>?_);refine aE [1,2] (fun _=>false) mo (by decide +kernel) ?_;refine ⟨_,⟨by omega,rfl⟩,?_⟩;refine cD pI h3 ?_;exact ⟨_,ax,rfl⟩
  ·obtain rfl:B=false:=by rw [hB];simp [hk]
   rw [af (by simp)] at hW hT;subst hW hT;refine br (fun _=>?_) (fun g=>absurd (sU g) hk);refine cP MV h4 ?_;exact ⟨_,ax,rfl⟩
 ·rw [decide_eq_false h0] at h1 hB;obtain rfl:B=false:=hB;rw [af (by simp)] at hW hT;rw [hR h0] at hW;subst hW hT;refine eG 27 [.cell 4 218,.cell 5 167] func265 rfl ntmps265 rfl fun _ _ _ _=>?_;refine cP gI h1 ?_;refine aE [1,2] (fun _=>false) mo (by decide +kernel) ?_;exact ⟨_,ax,rfl⟩
theorem dT (q:RS) (h:bP q):aR prog 182 [.agg (jD q)] (.bo [.agg (jK q.name),.agg (jD q.aT)]):=by
 have h1:=iD q h 1;have hN:q.name=⟨(q.lP 1).s,(q.lP 1).a⟩:=rfl;have hS:q.aT=q.any 1:=rfl;rw [hN,hS];generalize q.lP 1=T at h1 ⊢;generalize q.any 1=W at h1 ⊢;obtain ⟨l,f1,f2⟩:=q;obtain ⟨wl,wf1,wf2⟩:=W;obtain ⟨tk,ta,te,ts,tn⟩:=T;refine eG 17 [.cell 2 34,.cell 3 167] func182 rfl ntmps182 rfl fun _ _ _ _=>?_;refine cP zI h1 ?_;refine aE [1,2] (fun _=>false) mo (by decide +kernel) ?_;exact ⟨_,ax,rfl⟩
theorem RS.fI (q:RS) (s:ByteArray):q.may s=if q.dZ s=true then q.on else q:=rfl
theorem XR {q:RS} (h:¬ q.2.1=0) (k:Int):q.any k=q:=by
 unfold RS.any RS.A9 RS.wr
 grind
theorem I0 {q:RS} {k:Int} (h:(q.any k).2.1=0):q.2.1=0:=Classical.byContradiction fun hb=>by
 rw [XR hb] at h;exact hb h
abbrev Qq:List DV:=[.v (.slice none 0 0),.v (.int .i64 0),.v (.int .i64 0)]
abbrev F5 (q:RS) (l:List Wd) (n:Nat):St:=⟨[aJ 1 0,(2,⟨[],.v (.slice none 0 0)⟩),aJ 3 1,(4,⟨[],.sl 2 (bA l) (some 0)⟩)],[jD q,Qq],[⟨n,34,2,none⟩]⟩
theorem nS (l:List Wd) (w:Wd):bA l ++ [jK w]=bA (l ++ [w]):=by simp [bA]
theorem kK (q:RS) (h:bP q):aR prog 358 [.agg (jD q)] (.bo [.sl 2 (bA (iA q).1) none,.agg (jD (iA q).2)]):=by
 generalize hR:iA q=R;unfold iA at hR;have hb:=fH;have hlen:=h.len;refine eG 28 [.tmp 2,.cell 3 167] func358 rfl ntmps358 rfl fun _ _ _ _=>?_;refine aY (fun j st=>∃ (q1:RS) (l:List Wd) (n:Nat),st=F5 q1 l n/\n=l.length/\bP q1/\rLab j l q1=R/\(q1.2.1=0->q1.1.length < j)/\1<=j/\l.length + j<=bigN) bigN (F5 q [] 0) (di 2 ⟨0,34,2,none⟩ rfl rfl rfl tJ rfl rfl lW) ⟨q,[],0,rfl,rfl,h,hR,fun _=>by omega,by omega,by simp⟩ ?_;rintro j st ⟨q1,l,n,rfl,hn,h1,cw,az,hj,fO⟩;obtain ⟨m,rfl⟩:∃ m,j=m + 1:=⟨j - 1,by omega⟩;rw [rLab] at cw;have p1:=dT q1 h1;have p2:=bX _ h1.name rK;have jr:=@RS.FV q1 h1 1;have wg:=@RS.NZ q1.aT h1.name rK;have hf:=@RS.IK q1.aT rK;have hk:=@bP.gG q1.aT h1.name rK;have he:q1.aT=q1.any 1:=rfl;have haf:=@I0 q1 1;rw [<- he] at jr haf;rw [RS.fI] at p2;generalize q1.aT.dZ rK=B at p2 cw wg hf hk;generalize q1.name=W at p1 cw;generalize q1.aT.on=O at p2 cw wg hk;generalize q1.aT=S at p1 p2 cw jr wg hf haf;obtain ⟨ws,wa⟩:=W;obtain ⟨sl,sf1,sf2⟩:=S;obtain ⟨ol,pA,ph⟩:=O;refine cP pJ p1 ?_;refine ⟨by rw [aD];exact hn.symm,⟨by simp [maxLen,aD];omega,by simp [aD];omega⟩,?_⟩
 cases B with
 | true=>
  rw [zIfP rfl] at p2 cw;refine cP c9 p2 ?_;have RB:ol.length < m:=by grind
  exact ⟨F5 (ol,(pA,ph)) (l ++ [⟨ws,wa⟩]) (n + 1),(ej 2 (ng (nS l ⟨ws,wa⟩)) (wB1 (nS l ⟨ws,wa⟩))),m,by omega,(ol,(pA,ph)),_,_,rfl,by simp [hn],hk rfl,cw,fun _=>RB,by omega,by simp;omega⟩
 | false=>
  rw [af (by simp)] at p2 cw;refine cP c9 p2 ?_;subst cw;refine aE [1] (fun _=>false) mo (by decide +kernel) ?_
  have hX:∀ bx N,CcE bx N (bA (l ++ [⟨ws,wa⟩])) (bA l ++ [jK ⟨ws,wa⟩]):=fun bx N=>by
   rw [nS];exact fK _
  exact ⟨_,(o9 hX),rfl⟩
theorem Bo (q:RS) (h:bP q):aR prog 266 [.agg (jD q)] (.bo [.v (.int .i64 (pw q).1),.agg (jD (pw q).2)]):=by
 have h1:=bg q h aU;have h2:=iD _ (h.ah (k:=4) (by decide) aU) 2;have h3:=bg _ ((h.ah (k:=4) (by decide) aU).any (k:=2) (by decide)) bH;have hR:pw q=(((q.ah 4 aU).lP 2).n,((q.ah 4 aU).any 2).ah 4 bH):=rfl;rw [hR];generalize ((q.ah 4 aU).any 2).ah 4 bH=q3 at h3 ⊢;generalize (q.ah 4 aU).any 2=q2 at h2 h3;generalize (q.ah 4 aU).lP 2=T at h2 ⊢;generalize q.ah 4 aU=q1 at h1 h2;obtain ⟨l,f1,f2⟩:=q;obtain ⟨l1,f11,f21⟩:=q1;obtain ⟨l2,f12,f22⟩:=q2;obtain ⟨l3,f13,f23⟩:=q3;obtain ⟨tk,ta,te,ts,tn⟩:=T;refine eG 16 [.tmp 2,.cell 3 167] func266 rfl ntmps266 rfl fun _ _ _ _=>?_;refine cP eF h1 ?_;refine cP zI h2 ?_;refine aE [1] (fun _=>false) mo (by decide +kernel) ?_;refine cD eF h3 ?_;exact ⟨_,ax,rfl⟩
set_option maxHeartbeats 1000000 in
set_option maxHeartbeats 1000000 in
set_option maxHeartbeats 1000000 in
set_option maxHeartbeats 1000000 in
set_option maxHeartbeats 1000000 in
theorem j2 (q:RS) (h:bP q):aR prog 359 [.agg (jD q)] (.bo [.agg (QY (dz q).1),.agg (jD (dz q).2)]):=by
 generalize hR:dz q=R;unfold dz at hR;have hc:=h.cons;have h1:=cj q;have h3:=jl q h;have h4:=kJ q h;have hO:=h.on;generalize q.wr=W at hR h4;generalize hT:q.hd=t at hR hc hO;by_cases h0:q.2.1=0
 ·rw [zIfP h0] at hR;have h3a:=h3 h0;have hOa:=hO h0;clear h3 hO;obtain ⟨t',r,e1,rfl⟩:=hc h0;rw [decide_eq_true h0] at h1;have hn:=fun hk=>Bo q.on (hOa hk);generalize q.on=O at h3a hOa hn hR;obtain ⟨l,f1,f2⟩:=q;simp only at e1 h0;subst e1;obtain ⟨tk,ta,te,ts,tn⟩:=t;obtain ⟨wl,wf1,wf2⟩:=W;simp only at hR;refine eG 74 [.cell 2 131,.cell 3 167] func359 rfl ntmps359 rfl fun _ _ _ _=>?_;refine cP gI h1 ?_;refine ⟨_,⟨by omega,rfl⟩,?_⟩;by_cases hk:tk=1
  ·rw [zIfP hk] at hR;have hO2:=hOa (by show ¬ tk=0;omega);have EO:=hn (by show ¬ tk=0;omega);clear hOa hn;refine br (fun g=>absurd hk (sU g)) (fun _=>?_);by_cases e1:ts=mN;rw [zIfP e1] at hR;refine br (fun _=>?_) (fun g=>absurd e1 (sU g));obtain ⟨ol',Qr,Qs⟩:=O;generalize hN:pw (ol',(Qr,Qs))=N at hR EO;have hno:=uF hO2;rw [hN] at hno;obtain ⟨nn,nl,q8,ra⟩:=N;refine cP pI h3a ?_;refine cP R8 EO ?_
   rotate_left
   rw [af e1] at hR;refine br (fun g=>absurd (sU g) e1) (fun _=>?_);by_cases e2:ts=oL;rw [zIfP e2] at hR;refine br (fun _=>?_) (fun g=>absurd e2 (sU g));obtain ⟨ol',Qr,Qs⟩:=O;generalize hN:pw (ol',(Qr,Qs))=N at hR EO;have hno:=uF hO2;rw [hN] at hno;obtain ⟨nn,nl,q8,ra⟩:=N;refine cP pI h3a ?_;refine cP R8 EO ?_
   rotate_left
   rw [af e2] at hR;refine br (fun g=>absurd (sU g) e2) (fun _=>?_);by_cases e3:ts=qj;rw [zIfP e3] at hR;refine br (fun _=>?_) (fun g=>absurd e3 (sU g));obtain ⟨nl,q8,ra⟩:=O;have hno:=hO2;refine cP pI h3a ?_
   rotate_left
   ·rw [af e3] at hR;refine br (fun g=>absurd (sU g) e3) (fun _=>?_);subst hR;refine aE [1,2] (fun _=>false) mo (by decide +kernel) ?_;exact ⟨_,ax,rfl⟩
   all_goals
    have p1:=bX (nl,(q8,ra)) hno vd;have p2:=fun hm=>kK _ (bP.gG hno (s:=vd) hm);rw [RS.fI] at p1;unfold mv at hR;generalize RS.dZ (nl,(q8,ra)) vd=B at p1 p2 hR;generalize iA (RS.on (nl,(q8,ra)))=L at p2 hR;generalize RS.on (nl,(q8,ra))=O at p1 p2;obtain ⟨ol,pA,ph⟩:=O;obtain ⟨lw,ll,ve,vf⟩:=L
    cases B with
    | true=>
     rw [zIfP rfl] at p1 hR;have p2:=p2 rfl;subst hR;refine cP c9 p1 ?_;refine cP M5 p2 ?_;refine aE [1,2] (fun _=>false) mo (by decide +kernel) ?_;exact ⟨_,ax,rfl⟩
    | false=>
     rw [af (by simp)] at p1 hR;subst hR;refine cP c9 p1 ?_;refine aE [1,2] (fun _=>false) mo (by decide +kernel) ?_;exact ⟨_,ax,rfl⟩
  ·rw [af hk] at hR;refine br (fun _=>?_) (fun g=>absurd (sU g) hk);subst hR;refine aE [1,2] (fun _=>false) mo (by decide +kernel) ?_;refine cD MV h4 ?_;exact ⟨_,ax,rfl⟩
 ·rw [af h0] at hR;subst hR;rw [decide_eq_false h0] at h1;obtain ⟨l,f1,f2⟩:=q;refine eG 74 [.cell 2 131,.cell 3 167] func359 rfl ntmps359 rfl fun _ _ _ _=>?_;refine cP gI h1 ?_;refine aE [1,2] (fun _=>false) mo (by decide +kernel) ?_;exact ⟨_,ax,rfl⟩
set_option maxHeartbeats 1000000 in
theorem uO (x:Ph) (t:Ty) (q:RS) (h:bP q):aR prog 341 [.agg (jD q),.agg (kv x (cL t))] (.bo [.agg (kv (gh x q).1 (cL t)),.agg (jD (gh x q).2)]):=by
 generalize hR:gh x q=R;unfold gh at hR;obtain ⟨th,tp⟩:=t;obtain ⟨⟨ns,na⟩,bare,lb,wide,ck,cn,ca,cl⟩:=x;obtain ⟨l,f1,f2⟩:=q;refine eG 52 [.cell 4 133,.cell 5 167] func341 rfl ntmps341 rfl fun _ _ _ _=>?_;generalize LG:Lm _ _=R1 at hR;unfold Lm at LG;have a1:=bX _ h vd;have k1:=bP.gG h (s:=vd);rw [RS.fI] at a1;have b1:=fun hm=>kK _ (k1 hm);have p1:=fun hm=>wM (k1 hm);generalize RS.dZ _ vd=B1 at a1 b1 p1 LG k1;generalize hL1:iA (RS.on _)=L1 at b1 LG;rw [hL1] at p1;generalize RS.on _=O1 at a1 b1 k1;obtain ⟨ol1,pA,og1⟩:=O1;obtain ⟨lw1,F1,ve,F2⟩:=L1;cases B1;rw [af (by simp)] at a1 LG;have o1:=h;subst LG
 try simp only at hR
 refine cP c9 a1 ?_
 rotate_left
 rw [zIfP rfl] at a1 LG;have b1:=b1 rfl;have o1:=p1 rfl;subst LG
 try simp only at hR
 refine cP c9 a1 ?_;refine cP M5 b1 ?_
 all_goals
  generalize qm:JS _ _=R2 at hR;unfold JS at qm;have a2:=bX _ o1 pf;have k2:=bP.gG o1 (s:=pf);rw [RS.fI] at a2;have b2:=fun hm=>iD _ (k2 hm) 2;have p2:=fun hm=>(k2 hm).any (k:=2) (by decide);generalize RS.dZ _ pf=B2 at a2 b2 p2 qm k2;generalize RS.lP (RS.on _) 2=T2 at b2 qm;generalize RS.any (RS.on _) 2=L2 at b2 qm p2;generalize RS.on _=O2 at a2 b2 k2;obtain ⟨ol2,ph,og2⟩:=O2;obtain ⟨tk2,ta2,te2,ts2,tn2⟩:=T2;obtain ⟨F3,vf,F4⟩:=L2;cases B2;rw [af (by simp)] at a2 qm;have o2:=o1;subst qm
  try simp only at hR
  refine cP c9 a2 ?_
  rotate_left
  rw [zIfP rfl] at a2 qm;have b2:=b2 rfl;have o2:=p2 rfl;subst qm
  try simp only at hR
  refine cP c9 a2 ?_;refine cP zI b2 ?_
  all_goals
   generalize iC:GH _ _=R3 at hR;unfold GH at iC;have a3:=bX _ o2 eA;have k3:=bP.gG o2 (s:=eA);rw [RS.fI] at a3;have b3:=fun hm=>j2 _ (k3 hm);have p3:=fun hm=>lQ (k3 hm);generalize RS.dZ _ eA=B3 at a3 b3 p3 iC k3;generalize VF:dz (RS.on _)=L3 at b3 iC;rw [VF] at p3;generalize RS.on _=O3 at a3 b3 k3;obtain ⟨ol3,of3,og3⟩:=O3;obtain ⟨⟨ck3,cn3,ca3,cl3⟩,ll3,lf3,lg3⟩:=L3;cases B3;rw [af (by simp)] at a3 iC;have o3:=o2;subst iC
   try simp only at hR
   refine cP c9 a3 ?_
   rotate_left
   rw [zIfP rfl] at a3 iC;have b3:=b3 rfl;have o3:=p3 rfl;subst iC
   try simp only at hR
   refine cP c9 a3 ?_;refine cP M6 b3 ?_
   all_goals
    subst hR;refine aE [2,3] (fun _=>false) mo (by decide +kernel) ?_;exact ⟨_,ax,rfl⟩
theorem bP.pos {q:RS} (h:bP q) (h0:q.2.1=0):1<=q.1.length:=by
 obtain ⟨t,r,h1,_⟩:=h.cons h0;rw [h1];simp
abbrev F6 (e:ByteArray) (q:RS) (l:List Wd) (n:Nat):St:=⟨[(1,⟨[],.v (.string e)⟩),aJ 2 0,(4,⟨[],.v (.slice none 0 0)⟩),aJ 5 1,(6,⟨[],.sl 2 (bA l) (some 0)⟩)],[jD q,Qq],[⟨n,34,2,none⟩]⟩
theorem uP (e:ByteArray) (q:RS) (h:bP q):aR prog 178 [.agg (jD q),.v (.string e)] (.bo [.sl 2 (bA (kr e bigN [] q).1) none,.agg (jD (kr e bigN [] q).2)]):=by
 generalize hR:kr e bigN [] q=R;unfold kr at hR;have hb:=fH;have hlen:=h.len;refine eG 34 [.tmp 4,.cell 5 167] func178 rfl ntmps178 rfl fun _ _ _ _=>?_;refine aY (fun j st=>∃ (q1:RS) (l:List Wd) (n:Nat),st=F6 e q1 l n/\n=l.length/\bP q1/\rLst nmG e j l q1=R/\(q1.2.1=0->q1.1.length < j)/\1<=j/\l.length + j<=bigN) bigN (F6 e q [] 0) (di 2 ⟨0,34,2,none⟩ rfl rfl rfl tJ rfl rfl lW) ⟨q,[],0,rfl,rfl,h,hR,fun _=>by omega,by omega,by simp⟩ ?_;rintro j st ⟨q1,l,n,rfl,hn,h1,cw,az,hj,fO⟩;obtain ⟨m,rfl⟩:∃ m,j=m + 1:=⟨j - 1,by omega⟩;rw [rLst] at cw;have p0:=cj q1;by_cases h0:q1.2.1=0
 ·rw [zIfP h0] at cw;rw [decide_eq_true h0] at p0;have lk:=h1.pos h0;have az:=az h0;have cw:(if q1.aT.dZ e=true then (l ++ [q1.name],q1.aT.on) else rLst nmG e m (l ++ [q1.name]) (q1.aT.ah 4 bG))=R:=cw;have p1:=dT q1 h1;have p2:=bX _ h1.name e;have p3:=bg _ h1.name bG;have hk:=bP.ah h1.name (k:=4) (by decide) bG;have LJ:=@RS.uD q1.aT h1.name 4 bG;have jr:=@RS.FV q1 h1 1;have he:q1.aT=q1.any 1:=rfl;rw [<- he] at jr
  have hnf:(q1.aT.ah 4 bG).2.1=0->q1.aT.2.1=0:=fun h=>Classical.byContradiction fun hb=>by
   unfold RS.ah at h;rw [af hb] at h;exact hb h
  rw [RS.fI] at p2;generalize q1.aT.dZ e=B at p2 cw;generalize q1.name=W at p1 cw;generalize q1.aT.on=O at p2 cw;generalize q1.aT.ah 4 bG=C at p3 cw hk LJ hnf;generalize q1.aT=S at p1 p2 p3 jr LJ hnf;obtain ⟨ws,wa⟩:=W;obtain ⟨sl,sf1,sf2⟩:=S;obtain ⟨ol,pA,ph⟩:=O;obtain ⟨cl,ZQ,ZR⟩:=C;refine cP gI p0 ?_;refine cP pJ p1 ?_;refine ⟨by rw [aD];exact hn.symm,⟨by simp [maxLen,aD];omega,by simp [aD];omega⟩,?_⟩
  cases B with
  | true=>
   rw [zIfP rfl] at p2 cw;subst cw;refine cP c9 p2 ?_;refine aE [1] (fun _=>false) mo (by decide +kernel) ?_
   have hX:∀ bx N,CcE bx N (bA (l ++ [⟨ws,wa⟩])) (bA l ++ [jK ⟨ws,wa⟩]):=fun bx N=>by
    rw [nS];exact fK _
   exact ⟨_,(o9 hX),rfl⟩
  | false=>
   rw [af (by simp)] at p2 cw;refine cP c9 p2 ?_;refine cP eF p3 ?_
   exact ⟨F6 e (cl,(ZQ,ZR)) (l ++ [⟨ws,wa⟩]) (n + 1),(ej 2 (ng (nS l ⟨ws,wa⟩)) (wB1 (nS l ⟨ws,wa⟩))),m,by omega,(cl,(ZQ,ZR)),_,_,rfl,by simp [hn],hk,cw,fun h=>by
    have a1:=LJ h;have a2:=jr (hnf h);simp only at a1 a2 ⊢
    omega,by omega,by simp;omega⟩
 ·rw [af h0] at cw;rw [decide_eq_false h0] at p0;subst cw;obtain ⟨ql,UG,VK⟩:=q1;refine cP gI p0 ?_;refine aE [1] (fun _=>false) mo (by decide +kernel) ?_;exact ⟨_,ax,rfl⟩
section
variable {K:RS->Ty × RS} {d:Int} (hK:∀ q,bP q->aR prog 183 [.agg (jD q),.v (.int .i64 d)] (.bo [.agg (cL (K q).1),.agg (jD (K q).2)])) (hk:∀ q,bP q->bP (K q).2)
include hK hk
theorem F7 (q:RS) (h:bP q):aR prog 306 [.agg (jD q),.v (.bool false),.v (.int .i64 d)] (.bo [.agg (kv (sJ K q).1.1 (cL (sJ K q).1.2)),.agg (jD (sJ K q).2)]):=by
 have p1:=dT q h;have p2:=bg _ h.name b5;have vG:=h.name.ah (k:=4) (by decide) b5;have p3:=hK _ vG;have p4:=uO (sI q.name false) (K (q.aT.ah 4 b5)).1 _ (hk _ vG);have hR:sJ K q=(((gh (sI q.name false) (K (q.aT.ah 4 b5)).2).1,(K (q.aT.ah 4 b5)).1),(gh (sI q.name false) (K (q.aT.ah 4 b5)).2).2):=rfl;rw [hR];simp only;generalize gh (sI q.name false) (K (q.aT.ah 4 b5)).2=M at p4 ⊢;generalize K (q.aT.ah 4 b5)=T at p3 p4 ⊢;generalize q.aT.ah 4 b5=q2 at p2 p3;generalize q.aT=q1 at p1 p2;generalize q.name=W at p1 p4;obtain ⟨ws,wa⟩:=W;obtain ⟨l,f1,f2⟩:=q;obtain ⟨l1,f11,f21⟩:=q1;obtain ⟨l2,f12,f22⟩:=q2;obtain ⟨⟨th,tp⟩,tl,tf1,tf2⟩:=T;obtain ⟨⟨⟨ns,na⟩,bare,lb,wide,ck,cn,ca,cl⟩,ml,mf1,mf2⟩:=M;refine eG 56 [.cell 6 133,.cell 7 167] func306 rfl ntmps306 rfl fun _ _ _ _=>?_;refine cP pJ p1 ?_;refine cP eF p2 ?_;refine cP ni p3 ?_;refine cP Y9 p4 ?_;exact ⟨_,ax,rfl⟩
theorem LK (q:RS) (h:bP q):aR prog 306 [.agg (jD q),.v (.bool true),.v (.int .i64 d)] (.bo [.agg (kv (Ba K q).1.1 (cL (Ba K q).1.2)),.agg (jD (Ba K q).2)]):=by
 generalize hR:Ba K q=R;unfold Ba at hR;have p1:=dT q h;have p2:=bX _ h.name aU;have hm:=fun hm=>h.name.gG (s:=aU) hm;have p3:=fun h=>hK _ (hm h);have p4:=fun h=>bg _ (hk _ (hm h)) bH;have p5:=fun h=>uO (sI q.name false) (K q.aT.on).1 _ ((hk _ (hm h)).ah (k:=4) (by decide) bH);rw [RS.fI] at p2;generalize q.aT.dZ aU=B at p2 hm p3 p4 p5 hR;generalize gh (sI q.name false) ((K q.aT.on).2.ah 4 bH)=M at p5 hR;generalize (K q.aT.on).2.ah 4 bH=q4 at p4 p5;generalize K q.aT.on=T at p3 p4 p5 hR;generalize q.aT.on=q2 at p2 p3;generalize q.aT=q1 at p1 p2 hR;generalize q.name=W at p1 p5 hR;obtain ⟨ws,wa⟩:=W;obtain ⟨l,f1,f2⟩:=q;obtain ⟨l1,f11,f21⟩:=q1;obtain ⟨l2,f12,f22⟩:=q2;obtain ⟨l4,f14,f24⟩:=q4;obtain ⟨⟨th,tp⟩,tl,tf1,tf2⟩:=T;obtain ⟨⟨⟨ns,na⟩,bare,lb,wide,ck,cn,ca,cl⟩,ml,mf1,mf2⟩:=M
 cases B with
 | true=>
  rw [zIfP rfl] at p2 hR;have p3:=p3 rfl;have p4:=p4 rfl;have p5:=p5 rfl;subst hR;refine eG 56 [.cell 6 133,.cell 7 167] func306 rfl ntmps306 rfl fun _ _ _ _=>?_;refine cP pJ p1 ?_;refine cP c9 p2 ?_;refine cP ni p3 ?_;refine aE [1,2] (fun _=>false) mo (by decide +kernel) ?_;refine cD eF p4 ?_;refine cD Y9 p5 ?_;exact ⟨_,ax,rfl⟩
 | false=>
  rw [af (by simp)] at p2 hR;subst hR;refine eG 56 [.cell 6 133,.cell 7 167] func306 rfl ntmps306 rfl fun _ _ _ _=>?_;refine cP pJ p1 ?_;refine cP c9 p2 ?_;refine aE [1,2] (fun _=>false) mo (by decide +kernel) ?_;exact ⟨_,ax,rfl⟩
end
def wR (l:List (Ph × Ty)):List (List DV):=l.map (fun p=>kv p.1 (cL p.2))
theorem mz (l:List (Ph × Ty)):(wR l).length=l.length:=List.length_map ..
theorem oR (l:List (Ph × Ty)) (p:Ph) (t:Ty):wR l ++ [kv p (cL t)]=wR (l ++ [(p,t)]):=by simp [wR]
abbrev rb (tag:Bool) (d:Int) (q:RS) (l:List (Ph × Ty)) (n:Nat):St:=⟨[zt 1 tag,aC 2 d,aJ 3 0,(6,⟨[],.v (.slice none 0 0)⟩),aJ 7 1,(10,⟨[],.sl 18 (wR l) (some 0)⟩)],[jD q,Qq],[⟨n,133,18,none⟩]⟩
theorem uQ {K:RS->Ty × RS} {d:Int} {tag:Bool} (hP:∀ q,bP q->aR prog 306 [.agg (jD q),.v (.bool tag),.v (.int .i64 d)] (.bo [.agg (kv (dN K tag q).1.1 (cL (dN K tag q).1.2)),.agg (jD (dN K tag q).2)]))
  (hk:∀ q,bP q->bP (dN K tag q).2) (ahj:∀ q,bP q->(dN K tag q).2.1.length<=q.1.length) (q:RS) (h:bP q):aR prog 267 [.agg (jD q),.v (.bool tag),.v (.int .i64 d)] (.bo [.sl 18 (wR (gU K tag q).1) none,.agg (jD (gU K tag q).2)]):=by
 generalize hR:gU K tag q=R;unfold gU at hR;have hb:=fH;have pa:=bg q h bE;have ha:=h.ah (k:=4) (by decide) bE;have pb:=bX _ ha aS;have hlen:=ha.len;rw [RS.fI] at pb;generalize q.ah 4 bE=q0 at pa ha pb hR hlen;generalize q0.dZ aS=B at pb hR;generalize q0.on=O at pb hR;obtain ⟨l0,f01,f02⟩:=q0;obtain ⟨ol,pA,ph⟩:=O;obtain ⟨ql,UG,VK⟩:=q;by_cases hB:(B && !tag)=true
 ·rw [zIfP hB] at hR;subst hR;rw [bh] at hB;obtain ⟨rfl,htag⟩:=hB;obtain rfl:tag=false:=sU htag;rw [zIfP rfl] at pb;refine eG 52 [.tmp 6,.cell 7 167] func267 rfl ntmps267 rfl fun _ _ _ _=>?_;refine cP eF pa ?_;refine cP c9 pb ?_;refine aE [1] (fun _=>false) mo (by decide +kernel) ?_;exact ⟨_,ax,rfl⟩
 rw [af hB] at hR;unfold FW at hR;obtain ⟨ml,mf1,mf2,hM⟩:∃ (ml:List gZ) (mf1 mf2:Int),(if B=true then ((ol,(pA,ph)):RS) else (l0,(f01,f02)))=(ml,(mf1,mf2)):=⟨_,_,_,rfl⟩;rw [hM] at pb;have hB':(B && !tag)=false:=sU hB;refine eG 52 [.tmp 6,.cell 7 167] func267 rfl ntmps267 rfl fun _ _ _ _=>?_;refine cP eF pa ?_;refine cP c9 pb ?_
 cases B with
 | false=>
  refine aY (fun j st=>∃ (q1:RS) (l:List (Ph × Ty)) (n:Nat),st=rb tag d q1 l n/\n=l.length/\bP q1/\rLst (prG K tag) aS j l q1=R/\(q1.2.1=0->q1.1.length < j)/\1<=j/\l.length + j<=bigN) bigN (rb tag d (l0,(f01,f02)) [] 0) (di 2 ⟨0,133,18,none⟩ rfl rfl rfl tJ rfl rfl lW) ⟨(l0,(f01,f02)),[],0,rfl,rfl,ha,hR,fun _=>by omega,by omega,by simp⟩ ?_;rintro j st ⟨q1,l,n,rfl,hn,h1,cw,az,hj,fO⟩;obtain ⟨m,rfl⟩:∃ m,j=m + 1:=⟨j - 1,by omega⟩;rw [rLst] at cw;have p0:=cj q1;by_cases h0:q1.2.1=0
  ·rw [zIfP h0] at cw;rw [decide_eq_true h0] at p0;have lk:=h1.pos h0;have az:=az h0;have cw:(if (dN K tag q1).2.dZ aS=true then (l ++ [(dN K tag q1).1],(dN K tag q1).2.on) else rLst (prG K tag) aS m (l ++ [(dN K tag q1).1]) ((dN K tag q1).2.ah 4 bG))=R:=cw;have p1:=hP q1 h1;have lX:=hk q1 h1;have jr:=ahj q1 h1;have p2:=bX _ lX aS;have p3:=bg _ lX bG;have vG:=bP.ah lX (k:=4) (by decide) bG;have LJ:=@RS.uD (dN K tag q1).2 lX 4 bG;rw [RS.fI] at p2;generalize (dN K tag q1).2.dZ aS=B at p2 cw;generalize (dN K tag q1).2.on=O at p2 cw;generalize (dN K tag q1).2.ah 4 bG=C at p3 cw vG LJ;generalize dN K tag q1=S at p1 p2 p3 jr LJ cw;obtain ⟨⟨⟨⟨ns,na⟩,bare,lb,wide,ck,cn,ca,cl⟩,⟨th,tp⟩⟩,sl,sf1,sf2⟩:=S;obtain ⟨ol,pA,ph⟩:=O;obtain ⟨cl',ZQ,ZR⟩:=C;refine cP gI p0 ?_;refine cP Y5 p1 ?_;refine ⟨by rw [mz];exact hn.symm,⟨by simp [maxLen,mz];omega,by simp [mz];omega⟩,?_⟩
   cases B with
   | true=>
    rw [zIfP rfl] at p2 cw;subst cw;refine cP c9 p2 ?_;refine aE [1] (fun _=>false) mo (by decide +kernel) ?_
    have hX:∀ bx N,CcE bx N (wR (l ++ [(⟨⟨ns,na⟩,bare,lb,wide,ck,cn,ca,cl⟩,.mk th tp)])) (wR l ++ [kv ⟨⟨ns,na⟩,bare,lb,wide,ck,cn,ca,cl⟩ (cL (.mk th tp))]):=fun bx N=>by
     rw [oR];exact fK _
    exact ⟨_,(o9 hX),rfl⟩
   | false=>
    rw [af (by simp)] at p2 cw;refine cP c9 p2 ?_;refine cP eF p3 ?_
    exact ⟨rb tag d (cl',(ZQ,ZR)) (l ++ [(⟨⟨ns,na⟩,bare,lb,wide,ck,cn,ca,cl⟩,.mk th tp)]) (n + 1),(ej 2 (ng (oR l ⟨⟨ns,na⟩,bare,lb,wide,ck,cn,ca,cl⟩ (.mk th tp))) (wB1 (oR l ⟨⟨ns,na⟩,bare,lb,wide,ck,cn,ca,cl⟩ (.mk th tp)))),m,by omega,(cl',(ZQ,ZR)),_,_,rfl,by simp [hn],vG,cw,fun h=>by
     have a1:=LJ h;simp only at a1 jr ⊢
     omega,by omega,by simp;omega⟩
  ·rw [af h0] at cw;rw [decide_eq_false h0] at p0;subst cw;obtain ⟨ql,UG,VK⟩:=q1;refine cP gI p0 ?_;refine aE [1] (fun _=>false) mo (by decide +kernel) ?_;exact ⟨_,ax,rfl⟩
 | true=>
  obtain rfl:tag=true:=sU hB';refine aY (fun j st=>∃ (q1:RS) (l:List (Ph × Ty)) (n:Nat),st=rb true d q1 l n/\n=l.length/\bP q1/\rLst (prG K true) aS j l q1=R/\(q1.2.1=0->q1.1.length < j)/\1<=j/\l.length + j<=bigN) bigN (rb true d (l0,(f01,f02)) [] 0) (di 2 ⟨0,133,18,none⟩ rfl rfl rfl tJ rfl rfl lW) ⟨(l0,(f01,f02)),[],0,rfl,rfl,ha,hR,fun _=>by omega,by omega,by simp⟩ ?_;rintro j st ⟨q1,l,n,rfl,hn,h1,cw,az,hj,fO⟩;obtain ⟨m,rfl⟩:∃ m,j=m + 1:=⟨j - 1,by omega⟩;rw [rLst] at cw;have p0:=cj q1;by_cases h0:q1.2.1=0
  ·rw [zIfP h0] at cw;rw [decide_eq_true h0] at p0;have lk:=h1.pos h0;have az:=az h0;have cw:(if (dN K true q1).2.dZ aS=true then (l ++ [(dN K true q1).1],(dN K true q1).2.on) else rLst (prG K true) aS m (l ++ [(dN K true q1).1]) ((dN K true q1).2.ah 4 bG))=R:=cw;have p1:=hP q1 h1;have lX:=hk q1 h1;have jr:=ahj q1 h1;have p2:=bX _ lX aS;have p3:=bg _ lX bG;have vG:=bP.ah lX (k:=4) (by decide) bG;have LJ:=@RS.uD (dN K true q1).2 lX 4 bG;rw [RS.fI] at p2;generalize (dN K true q1).2.dZ aS=B at p2 cw;generalize (dN K true q1).2.on=O at p2 cw;generalize (dN K true q1).2.ah 4 bG=C at p3 cw vG LJ;generalize dN K true q1=S at p1 p2 p3 jr LJ cw;obtain ⟨⟨⟨⟨ns,na⟩,bare,lb,wide,ck,cn,ca,cl⟩,⟨th,tp⟩⟩,sl,sf1,sf2⟩:=S;obtain ⟨ol,pA,ph⟩:=O;obtain ⟨cl',ZQ,ZR⟩:=C;refine cP gI p0 ?_;refine cP Y5 p1 ?_;refine ⟨by rw [mz];exact hn.symm,⟨by simp [maxLen,mz];omega,by simp [mz];omega⟩,?_⟩
   cases B with
   | true=>
    rw [zIfP rfl] at p2 cw;subst cw;refine cP c9 p2 ?_;refine aE [1] (fun _=>false) mo (by decide +kernel) ?_
    have hX:∀ bx N,CcE bx N (wR (l ++ [(⟨⟨ns,na⟩,bare,lb,wide,ck,cn,ca,cl⟩,.mk th tp)])) (wR l ++ [kv ⟨⟨ns,na⟩,bare,lb,wide,ck,cn,ca,cl⟩ (cL (.mk th tp))]):=fun bx N=>by
     rw [oR];exact fK _
    exact ⟨_,(o9 hX),rfl⟩
   | false=>
    rw [af (by simp)] at p2 cw;refine cP c9 p2 ?_;refine cP eF p3 ?_
    exact ⟨rb true d (cl',(ZQ,ZR)) (l ++ [(⟨⟨ns,na⟩,bare,lb,wide,ck,cn,ca,cl⟩,.mk th tp)]) (n + 1),(ej 2 (ng (oR l ⟨⟨ns,na⟩,bare,lb,wide,ck,cn,ca,cl⟩ (.mk th tp))) (wB1 (oR l ⟨⟨ns,na⟩,bare,lb,wide,ck,cn,ca,cl⟩ (.mk th tp)))),m,by omega,(cl',(ZQ,ZR)),_,_,rfl,by simp [hn],vG,cw,fun h=>by
     have a1:=LJ h;simp only at a1 jr ⊢
     omega,by omega,by simp;omega⟩
  ·rw [af h0] at cw;rw [decide_eq_false h0] at p0;subst cw;obtain ⟨ql,UG,VK⟩:=q1;refine cP gI p0 ?_;refine aE [1] (fun _=>false) mo (by decide +kernel) ?_;exact ⟨_,ax,rfl⟩
abbrev nT {α:Type} (f:au->α->au × α) (e:ByteArray) (N:Nat) (c:au) (a:α):au × α:=aaa true f e N c a
theorem Ej {α:Type} {A B C:α->List DV} {T:α->TkE} {f:au->α->au × α} {Inv:au->α->Prop} {g i j:Nat} (hi:i < 4) (hj:j < 4) (hA:∀ a,clB.clL 4 1 (A a)=true) (hB:∀ a,clB.clL 4 1 (B a)=true) (hC:∀ a,clB.clL 4 1 (C a)=true) (gY:Enters prog g)
  (jW:∀ c a,aw c->Inv c a->c.f.1=0->DS A B C T f Inv g i j c a) (Uf:∀ c a,aw c->Inv c a->Inv (c.ah ⟨#[44]⟩) a) (e:ByteArray) (N:Nat) (c:au) (a:α) (hc:aw c) (ha:Inv c a) (hN:c.l.length<=c.p + N) :
  Ev prog 160 [iQ,.v (.string e),(.v (.bool true)),.fn g [] [.loc i 0,.loc j 0]] [aH c,A a,B a,C a] [T a]
   (fun r os tk=>r = .bo []/\os=[aH (nT f e N c a).1,A (nT f e N c a).2,B (nT f e N c a).2,C (nT f e N c a).2]/\tk=[T (nT f e N c a).2]):=
 aae (A:=A) (B:=B) (C:=C) (T:=T) (f:=f) (Inv:=Inv) true hi hj hA hB hC gY jW Uf e N c a hc ha hN
abbrev ppSt (c:au) (g:Nat) (tag:Bool):St:=⟨[zt 1 (!tag),aJ 3 1,aJ 5 2,aJ 7 3],[aH c,mL,[.fn g [iQ] []],GJ 0],[JU 0 []]⟩
theorem XS (p:Ph) (t:Ty):(kv p (cL t)).length=18:=by
 obtain ⟨h,ps⟩:=t;rfl
theorem UH {l:List (Ph × Ty)}:∀ x∈wR l,x.length=18:=fun x hx=>by
 obtain ⟨y,_,rfl⟩:=List.mem_map.1 hx;exact XS _ _
theorem UI:∀ {l:List (List DV)},(∀ x∈l,x.length=18)->l.flatten.length=l.length * 18
 | [],_=>rfl
 | x :: r,h=>by
  rw [List.flatten_cons,List.length_append,h x (by simp),UI (fun y hy=>h y (iS _ hy)),List.length_cons];omega
theorem UJ (l:List (Ph × Ty)):(wR l).flatten.length=l.length * 18:=by rw [UI UH,mz]
def ZS (c:au) (a:List (Ph × Ty)):Prop:=a.length<=c.p∨(c.f.1≠0/\a.length<=c.p + 1)
theorem wS {c:au} (h:c.al.f.1=0):c.al.p=c.p + 1:=by grind [au.al,au.step,DW,ij]
section
variable {K:au->Ty × au} {D:Nat} (hk:Ly K D)
include hk
theorem XT {tag:Bool} {c:au} (h:aw c) (hd:c.d=D) (h0:(dp K tag c).2.f.1=0):c.p + 1<=(dp K tag c).2.p:=by
 unfold dp at h0 ⊢
 cases tag with
 | true=>
  rw [zIfP rfl] at h0 ⊢;unfold uG at h0 ⊢;split at h0
  ·rename_i hi;rw [zIfP hi];have o1:aw c.al.step:=h.al.step;have d1:c.al.step.d=D:=by rw [(aW.step _).d,(aW.al _).d,hd]
   have e1:=wS (Sm.dA (by decide) hi);have e2:=(aW.step c.al).p;have e3:=(hk.st o1 d1).p;have e4:=(aW.ah (K c.al.step).2 bH).p;have e5:=(@oM (sI c.bf false) _ _ (Sm.self ((hk.ok o1 d1).ah bH))).st.p;show c.p + 1<=(cF _ _).2.p;omega
  ·grind [wS]
 | false=>
  rw [af (by simp)] at h0 ⊢;have d1:(c.al.ah b5).d=D:=by rw [(aW.ah _ _).d,(aW.al _).d,hd]
  have o1:=h.al.ah b5;have h0:(cF (sI c.bf false) (K (c.al.ah b5)).2).2.f.1=0:=h0;have f1:=hk.fine o1 d1 (qk h0);have e1:=wS (bI f1);have e2:=(aW.ah c.al b5).p;have e3:=(hk.st o1 d1).p;have e5:=(@oM (sI c.bf false) _ _ (Sm.self (hk.ok o1 d1))).st.p;show c.p + 1<=(cF _ _).2.p;omega
theorem I1 {tag:Bool} {g:Nat} (gY:Enters prog g) (hP:∀ c,aw c->c.d=D->Ev prog g [iQ] [aH c] [] (kV (.agg (kv (dp K tag c).1.1 (cL (dp K tag c).1.2))) (dp K tag c).2)) (c:au) (a:List (Ph × Ty)) (h:aw c) (hi:ZS c a/\c.d=D) (hf:c.f.1=0) :
  DS (fun _=>mL) (fun _=>[.fn g [iQ] []]) (fun a=>GJ a.length) (fun a=>JU a.length (wR a).flatten) (wN K tag) (fun c a=>ZS c a/\c.d=D) 338 3 2 c a where
 ok:=(kX hk h hi.2).1
 l:=(kX hk h hi.2).2.l
 p:=(kX hk h hi.2).2.p
 inv:=by
  refine ⟨?_,by rw [show (wN K tag c a).1=(dp K tag c).2 from rfl,(kX hk h hi.2).2.d];exact hi.2⟩
  have ha:a.length<=c.p:=by
   rcases hi.1 with h1 | h1
   ·exact h1
   ·exact absurd hf h1.1
  show ZS (dp K tag c).2 (a ++ [(dp K tag c).1]);unfold ZS;rw [List.length_append,List.length_singleton];have e1:=(kX (tag:=tag) hk h hi.2).2.p;by_cases h0:(dp K tag c).2.f.1=0
  ·grind [XT]
  ·exact .inr ⟨h0,by omega⟩
 ev:=by
  have h1:=h.lt;have h2:=h.len
  have hl:a.length<=c.p:=by
   rcases hi.1 with h1 | h1
   ·exact h1
   ·exact absurd hf h1.1
  have hp:=hP c h hi.2;have e:=IY g gY c (dp K tag c).2 (dp K tag c).1.1 (dp K tag c).1.2 hp a.length (by omega) (wR a).flatten (UJ a)
  have e1:GJ (wN K tag c a).2.length=GJ (a.length + 1):=by
   show GJ (a ++ [(dp K tag c).1]).length=_;rw [List.length_append,List.length_singleton]
  have e2:JU (wN K tag c a).2.length (wR (wN K tag c a).2).flatten=JU (a.length + 1) ((wR a).flatten ++ kv (dp K tag c).1.1 (cL (dp K tag c).1.2)):=by
   show JU (a ++ [(dp K tag c).1]).length (wR (a ++ [(dp K tag c).1])).flatten=_;rw [List.length_append,List.length_singleton,<- oR];simp
  rw [e1,e2];exact e
omit hk in
theorem Og (c:au) (a:List (Ph × Ty)) (_:aw c) (hi:ZS c a/\c.d=D):ZS (c.ah ⟨#[44]⟩) a/\(c.ah ⟨#[44]⟩).d=D:=by
 refine ⟨?_,by rw [(aW.ah _ _).d];exact hi.2⟩;rcases hi.1 with h1 | ⟨h1,h2⟩
 ·exact .inl (Nat.le_trans h1 (qZ c _))
 ·rw [cQ h1];exact .inr ⟨h1,h2⟩
end
section
variable {K:au->Ty × au} {D:Nat} (hk:Ly K D)
include hk
theorem I2 {tag:Bool} {g:Nat} (gY:Enters prog g) (hP:∀ c,aw c->c.d=D->Ev prog g [iQ] [aH c] [] (kV (.agg (kv (dp K tag c).1.1 (cL (dp K tag c).1.2))) (dp K tag c).2)) (c:au) (h:aw c) (hd:c.d=D) :
  Ev prog 160 [iQ,.v (.string aS),.v (.bool (!tag)),.fn 338 [] [.loc 3 0,.loc 2 0]] [aH (c.ah bE),mL,[.fn g [iQ] []],GJ 0] [JU 0 []]
   (fun r os tk=>r = .bo []/\os=[aH (dH K tag c).2,mL,[.fn g [iQ] []],GJ (dH K tag c).1.length]/\tk=[JU (dH K tag c).1.length (wR (dH K tag c).1).flatten]):=by
 have o2:=h.ah bE;have d2:(c.ah bE).d=D:=by rw [(aW.ah _ _).d,hd]
 have hlen:=o2.len;have hb:=fH
 cases tag with
 | true=>
  have e:=sH (A:=fun _=>mL) (B:=fun _=>[.fn g [iQ] []]) (C:=fun a=>GJ a.length) (T:=fun a=>JU a.length (wR a).flatten) (f:=wN K true) (Inv:=fun c a=>ZS c a/\c.d=D) (i:=3) (j:=2) (by decide) (by decide) (fun _=>rfl) (fun _=>rfl) (fun _=>rfl) Y7
   (fun c a hc hi hf=>I1 hk gY hP c a hc hi hf) Og aS bigN _ [] o2 ⟨.inl (Nat.zero_le _),d2⟩ (by omega)
  exact e
 | false=>
  have e:=Ej (A:=fun _=>mL) (B:=fun _=>[.fn g [iQ] []]) (C:=fun a=>GJ a.length) (T:=fun a=>JU a.length (wR a).flatten) (f:=wN K false) (Inv:=fun c a=>ZS c a/\c.d=D) (i:=3) (j:=2) (by decide) (by decide) (fun _=>rfl) (fun _=>rfl) (fun _=>rfl) Y7
   (fun c a hc hi hf=>I1 hk gY hP c a hc hi hf) Og aS bigN _ [] o2 ⟨.inl (Nat.zero_le _),d2⟩ (by omega)
  have hR:dH K false c=((nT (wN K false) aS bigN (c.ah bE) []).2,(nT (wN K false) aS bigN (c.ah bE) []).1):=by grind [dH,aaa]
  rw [hR];exact e
theorem xT {tag:Bool} {g:Nat} (gY:Enters prog g) (hP:∀ c,aw c->c.d=D->Ev prog g [iQ] [aH c] [] (kV (.agg (kv (dp K tag c).1.1 (cL (dp K tag c).1.2))) (dp K tag c).2)) (c:au) (h:aw c) (hd:c.d=D) :
  Ev prog 297 [iQ,.v (.bool (!tag)),.fn g [iQ] []] [aH c] [] (kV (.sl 18 (wR (dH K tag c).1) none) (dH K tag c).2):=by
 have h1:=bR c h bE;have h2:=I2 hk gY hP c h hd;generalize dH K tag c=R at h2 ⊢;generalize c.is 4 bE=B at h1;generalize c.ah bE=c2 at h1 h2;obtain ⟨L,lc,lp,ld,ve,vf⟩:=R;obtain ⟨l,p,d,f1,f2⟩:=c;obtain ⟨l2,p2,d2,f12,f22⟩:=c2;simp only at h2;refine eG 16 [.tmp 6] func297 rfl ntmps297 rfl fun _ _ _ _=>?_;refine S9 1 gj h1 ?_;refine uB (JU 0 []) (ppSt ⟨l2,p2,d2,f12,f22⟩ g tag) rfl ?_ rfl ?_ ?_ rfl rfl ?_
 ·repeat' (first | exact rfl | exact aA rfl | refine ⟨_,_,rfl,?_,?_⟩)
 ·repeat' (first | exact rfl | exact aA rfl | exact cz (zLeR _) rfl | refine ⟨_,_,rfl,?_,?_⟩)
 ·repeat' (first | exact trivial | exact aA rfl | refine ⟨⟨_,rfl,?_⟩,?_⟩)
 refine Ao 4 1 Hn rfl rfl rfl av av h2 (fun r Zj Zi hΦ _ _=>?_);obtain ⟨rfl,rfl,rfl⟩:=hΦ;refine ⟨_,Ti (j:=3) (o:=0) (k:=0) (ty:=133) (e:=18) (ocs:=GJ L.length) (n:=L.length) (es:=List.replicate L.length []) (ns:=wR L) rfl UH (mz L) rfl rfl (by simp),?_⟩;exact ⟨.sl 18 (wR L) none,[aH _],av,av,rfl,rfl,rfl⟩
end
abbrev XU (a:Int) (l:List Wd):List DV:=[.v (.int .i64 4),.v (.int .i64 a),.v (.int .i64 0),.v (.int .i64 0),.v (.int .i64 0),.sl 2 (bA l) (some 0),.v (.slice none 0 0),.v (.string ⟨#[]⟩),.v (.int .i64 0)]
abbrev ZT:List DV:=[.loc 1 0]
theorem UK (a:Int) (l:List Wd) (w:Wd):XU a (l ++ [w])=[.v (.int .i64 4),.v (.int .i64 a),.v (.int .i64 0),.v (.int .i64 0),.v (.int .i64 0),.sl 2 (bA l ++ [jK w]) (some 0),.v (.slice none 0 0),.v (.string ⟨#[]⟩),.v (.int .i64 0)]:=by simp [XU,bA]
theorem LL (c:au) (h:aw c) (cT:Int) (a:List Wd) (ha:a.length<=1099511627776):Ev prog 296 [.loc 3 0,.loc 2 0] [aH c,XU cT a,mL,ZT] [DU a]
  (fun r os tk=>r = .bo []/\os=[aH c.al,XU cT (a ++ [c.bf]),mL,ZT]/\tk=[DU (a ++ [c.bf])]):=by
 have hn:=ef c h;have hl:(bA a).length=a.length:=aD a;generalize c.bf=W at hn ⊢;generalize c.al=C1 at hn ⊢;obtain ⟨l,p,d,f1,f2⟩:=c;obtain ⟨l1,p1,d1,f11,f21⟩:=C1;obtain ⟨ws,wa⟩:=W;refine eG 13 [] func296 rfl ntmps296 rfl fun _ _ _ _=>?_;refine aE [0] (fun i=>Nat.beq i 11) mo (by decide +kernel) ?_;refine fN 1 rfl pe rfl rfl av av hn (fun r Zj hΦ _=>?_);obtain ⟨rfl,rfl,_⟩:=hΦ;refine ⟨hl,⟨by simp [maxLen,hl];omega,by simp [hl];omega⟩,?_⟩;rw [IG,UK];exact ⟨.bo [],[aH ⟨l1,p1,d1,f11,f21⟩,[.v (.int .i64 4),.v (.int .i64 cT),.v (.int .i64 0),.v (.int .i64 0),.v (.int .i64 0),.sl 2 (bA a ++ [jK ⟨ws,wa⟩]) (some 0),.v (.slice none 0 0),.v (.string ⟨#[]⟩),.v (.int .i64 0)],mL,ZT],av,av,rfl,rfl,rfl⟩
theorem UL (cT:Int) (c:au) (a:List Wd) (h:aw c) (hi:A6 c a) (hf:c.f.1=0):DS (fun a=>XU cT a) (fun _=>mL) (fun _=>ZT) DU ia A6 296 3 2 c a where
 ok:=h.al
 l:=(aW.al c).l
 p:=(aW.al c).p
 inv:=(NU c a h hi hf).inv
 ev:=LL c h cT a (by
  have h1:=h.lt;have h2:=h.len
  rcases hi with h3 | h3<;>omega)
theorem Qt (cT:Int) (c:au) (h:aw c):Ev prog 160 [iQ,.v (.string bH),.v (.bool false),.fn 296 [] [.loc 3 0,.loc 2 0]] [aH c,XU cT [],mL,ZT] [DU []]
  (fun r os tk=>r = .bo []/\os=[aH (listF ia bH bigN c []).1,XU cT (listF ia bH bigN c []).2,mL,ZT]/\tk=[DU (listF ia bH bigN c []).2]):=by
 have hlen:=h.len;have hb:=fH;exact sH (A:=fun a=>XU cT a) (B:=fun _=>mL) (C:=fun _=>ZT) (T:=DU) (f:=ia) (Inv:=A6) (by decide) (by decide) (fun _=>rfl) (fun _=>rfl) (fun _=>rfl) ae7 (fun c a hc hi hf=>UL cT c a hc hi hf) IJ bH bigN c [] h (.inl (Nat.zero_le _)) (by omega)
abbrev aho (c:au) (a:Int):St:=⟨[aJ 3 2,aJ 4 3],[aH c,XU a [],mL,ZT],[DU []]⟩
section
variable {K:au->Ty × au} {D:Nat} (hK:∀ c,aw c->c.d=D->Ev prog 166 [iQ] [aH c] [] (kV (.agg (cL (K c).1)) (K c).2)) (hk:Ly K D)
include hK hk
set_option maxHeartbeats 4000000 in
theorem LM (w:ByteArray) (a:Int) (c:au) (h:aw c) (hd:c.d=D):Ev prog 249 [iQ,.loc 1 0,.v (.string w)] [aH c,Xt 0 a] []
  (fun r os tk=>r = .v (.bool (fc K w a c).1)/\os=[aH (fc K w a c).2.2,cL (fc K w a c).2.1]/\tk=[]):=by
 have hPf:=fun c h hd=>xT (tag:=false) hk ae8 (fun c h hd=>IW hK hk c h hd) c h hd;have hPt:=fun c h hd=>xT (tag:=true) hk ae9 (fun c h hd=>Qm hK hk c h hd) c h hd;generalize hR:fc K w a c=R;unfold fc at hR;obtain ⟨l,p,d,f1,f2⟩:=c;refine eG 142 [.tmp 6] func249 rfl ntmps249 rfl fun _ _ _ _=>?_;by_cases e1:w=xO
 ·rw [zIfP e1] at hR;refine br (fun _=>?_) (fun g=>absurd e1 (sU g));subst hR;exact ⟨.v (.bool true),[aH _,cL _],av,av,rfl,rfl,rfl⟩
 refine br (fun g=>absurd (sU g) e1) (fun _=>?_);by_cases e2:w=Xv
 ·rw [af e1,zIfP e2] at hR;have a1:=bR ⟨l,p,d,f1,f2⟩ h aU;have gV:=aw.ah h aU;have Ek:(au.ah ⟨l,p,d,f1,f2⟩ aU).d=D:=((aW.ah _ _).d).trans hd;generalize au.is ⟨l,p,d,f1,f2⟩ 4 aU=B1 at a1;generalize au.ah ⟨l,p,d,f1,f2⟩ aU=c1 at a1 gV Ek hR;obtain ⟨l1,p1,d1,f1,g1⟩:=c1;have a2:=kY ⟨l1,p1,d1,f1,g1⟩ gV;have mK:=aw.b7 gV;have Q0:(au.b7 ⟨l1,p1,d1,f1,g1⟩).d=D:=((aW.b7 _).d).trans Ek;generalize au.kG ⟨l1,p1,d1,f1,g1⟩=n2 at a2 hR;generalize au.b7 ⟨l1,p1,d1,f1,g1⟩=c2 at a2 mK Q0 hR;obtain ⟨l2,p2,d2,f2,g2⟩:=c2;have a3:=bR ⟨l2,p2,d2,f2,g2⟩ mK lO;have rn:=aw.ah mK lO;have VL:(au.ah ⟨l2,p2,d2,f2,g2⟩ lO).d=D:=((aW.ah _ _).d).trans Q0;generalize au.is ⟨l2,p2,d2,f2,g2⟩ 4 lO=B3 at a3;generalize au.ah ⟨l2,p2,d2,f2,g2⟩ lO=c3 at a3 rn VL hR;obtain ⟨l3,p3,d3,f3,g3⟩:=c3;have a4:=kY ⟨l3,p3,d3,f3,g3⟩ rn;have LN:=aw.b7 rn;have d4':(au.b7 ⟨l3,p3,d3,f3,g3⟩).d=D:=((aW.b7 _).d).trans VL;generalize au.kG ⟨l3,p3,d3,f3,g3⟩=n4 at a4 hR;generalize au.b7 ⟨l3,p3,d3,f3,g3⟩=c4 at a4 LN d4' hR;obtain ⟨l4,p4,d4,f4,g4⟩:=c4;have a5:=bR ⟨l4,p4,d4,f4,g4⟩ LN bH;have h5':=aw.ah LN bH;have d5':(au.ah ⟨l4,p4,d4,f4,g4⟩ bH).d=D:=((aW.ah _ _).d).trans d4';generalize au.is ⟨l4,p4,d4,f4,g4⟩ 4 bH=B5 at a5;generalize au.ah ⟨l4,p4,d4,f4,g4⟩ bH=c5 at a5 h5' d5' hR;obtain ⟨l5,p5,d5,f5,g5⟩:=c5;refine br (fun _=>?_) (fun g=>absurd e2 (sU g));refine S9 1 gj a1 ?_;refine aE [0,1] (fun i=>Nat.beq i 5) mo (by decide +kernel) ?_;refine fN 1 rfl CO rfl rfl av av a2 (fun r Zj hΦ _=>?_);obtain ⟨rfl,rfl,_⟩:=hΦ;refine S9 1 gj a3 ?_;refine aE [0,1] (fun i=>Nat.beq i 5) mo (by decide +kernel) ?_;refine fN 1 rfl CO rfl rfl av av a4 (fun r Zj hΦ _=>?_);obtain ⟨rfl,rfl,_⟩:=hΦ;refine S9 1 gj a5 ?_;subst hR;exact ⟨.v (.bool true),[aH _,cL _],av,av,rfl,rfl,rfl⟩
 refine br (fun g=>absurd (sU g) e2) (fun _=>?_);by_cases e3:w=NW
 ·rw [af e1,af e2,zIfP e3] at hR;have a1:=sO _ h;generalize nM ⟨l,p,d,f1,f2⟩=c1 at a1 hR;obtain ⟨nn,l1,p1,d1,f1,g1⟩:=c1;refine br (fun _=>?_) (fun g=>absurd e3 (sU g));refine aE [0,1] (fun _=>false) mo (by decide +kernel) ?_;refine fN 1 rfl Sb rfl rfl av av a1 (fun r Zj hΦ _=>?_);obtain ⟨rfl,rfl,_⟩:=hΦ;subst hR;exact ⟨.v (.bool true),[aH _,cL _],av,av,rfl,rfl,rfl⟩
 refine br (fun g=>absurd (sU g) e3) (fun _=>?_);by_cases e4:w=NX
 ·rw [af e1,af e2,af e3,zIfP e4] at hR;have a1:=bR ⟨l,p,d,f1,f2⟩ h aU;have gV:=aw.ah h aU;have Ek:(au.ah ⟨l,p,d,f1,f2⟩ aU).d=D:=((aW.ah _ _).d).trans hd;generalize au.is ⟨l,p,d,f1,f2⟩ 4 aU=B1 at a1;generalize au.ah ⟨l,p,d,f1,f2⟩ aU=c1 at a1 gV Ek hR;obtain ⟨l1,p1,d1,f1,g1⟩:=c1;have a2:=Qt a ⟨l1,p1,d1,f1,g1⟩ gV;generalize listF ia bH bigN ⟨l1,p1,d1,f1,g1⟩ []=c2 at a2 hR;obtain ⟨⟨l2,p2,d2,f2',g2⟩,nl⟩:=c2;simp only at a2;refine br (fun _=>?_) (fun g=>absurd e4 (sU g));refine S9 1 gj a1 ?_;refine uB (DU []) (aho ⟨l1,p1,d1,f1,g1⟩ a) rfl ?_ rfl ?_ ?_ rfl rfl ?_
  ·repeat' (first | exact rfl | exact aA rfl | refine ⟨_,_,rfl,?_,?_⟩)
  ·repeat' (first | exact rfl | exact aA rfl | exact cz (zLeR _) rfl | refine ⟨_,_,rfl,?_,?_⟩)
  ·repeat' (first | exact trivial | exact aA rfl | refine ⟨⟨_,rfl,?_⟩,?_⟩)
  refine ai 4 1 Hn rfl rfl rfl av av a2 (fun r Zj Zi hΦ _ _=>?_);obtain ⟨rfl,rfl,rfl⟩:=hΦ;subst hR;exact ⟨.v (.bool true),[aH _,cL _],av,av,rfl,rfl,rfl⟩
 refine br (fun g=>absurd (sU g) e4) (fun _=>?_);by_cases e5:w=NY
 ·rw [af e1,af e2,af e3,af e4,zIfP e5] at hR;have a1:=bR ⟨l,p,d,f1,f2⟩ h aU;have gV:=aw.ah h aU;have Ek:(au.ah ⟨l,p,d,f1,f2⟩ aU).d=D:=((aW.ah _ _).d).trans hd;generalize au.is ⟨l,p,d,f1,f2⟩ 4 aU=B1 at a1;generalize au.ah ⟨l,p,d,f1,f2⟩ aU=c1 at a1 gV Ek hR;obtain ⟨l1,p1,d1,f1,g1⟩:=c1;have a2:=hK _ gV Ek;have mK:=Ly.ok hk gV Ek;have Q0:(K ⟨l1,p1,d1,f1,g1⟩).2.d=D:=((Ly.st hk gV Ek).d).trans Ek;generalize K ⟨l1,p1,d1,f1,g1⟩=c2 at a2 mK Q0 hR;obtain ⟨⟨th2,tp2⟩,l2,p2,d2,f2,g2⟩:=c2;have a3:=bR ⟨l2,p2,d2,f2,g2⟩ mK bG;have rn:=aw.ah mK bG;have VL:(au.ah ⟨l2,p2,d2,f2,g2⟩ bG).d=D:=((aW.ah _ _).d).trans Q0;generalize au.is ⟨l2,p2,d2,f2,g2⟩ 4 bG=B3 at a3;generalize au.ah ⟨l2,p2,d2,f2,g2⟩ bG=c3 at a3 rn VL hR;obtain ⟨l3,p3,d3,f3,g3⟩:=c3;have a4:=kY ⟨l3,p3,d3,f3,g3⟩ rn;have LN:=aw.b7 rn;have d4':(au.b7 ⟨l3,p3,d3,f3,g3⟩).d=D:=((aW.b7 _).d).trans VL;generalize au.kG ⟨l3,p3,d3,f3,g3⟩=n4 at a4 hR;generalize au.b7 ⟨l3,p3,d3,f3,g3⟩=c4 at a4 LN d4' hR;obtain ⟨l4,p4,d4,f4,g4⟩:=c4;have a5:=bR ⟨l4,p4,d4,f4,g4⟩ LN bH;have h5':=aw.ah LN bH;have d5':(au.ah ⟨l4,p4,d4,f4,g4⟩ bH).d=D:=((aW.ah _ _).d).trans d4';generalize au.is ⟨l4,p4,d4,f4,g4⟩ 4 bH=B5 at a5;generalize au.ah ⟨l4,p4,d4,f4,g4⟩ bH=c5 at a5 h5' d5' hR;obtain ⟨l5,p5,d5,f5,g5⟩:=c5;refine br (fun _=>?_) (fun g=>absurd e5 (sU g));refine S9 1 gj a1 ?_;refine aE [0,1] (fun i=>Nat.beq i 7) mo (by decide +kernel) ?_;refine fN 1 rfl tO rfl rfl av av a2 (fun r Zj hΦ _=>?_);obtain ⟨rfl,rfl,_⟩:=hΦ;refine S9 1 gj a3 ?_;refine aE [0,1] (fun i=>Nat.beq i 5) mo (by decide +kernel) ?_;refine fN 1 rfl CO rfl rfl av av a4 (fun r Zj hΦ _=>?_);obtain ⟨rfl,rfl,_⟩:=hΦ;refine S9 1 gj a5 ?_;subst hR;exact ⟨.v (.bool true),[aH _,cL _],av,av,rfl,rfl,rfl⟩
 refine br (fun g=>absurd (sU g) e5) (fun _=>?_);by_cases e6:w=Xw
 ·rw [af e1,af e2,af e3,af e4,af e5,zIfP e6] at hR;have a1:=bR ⟨l,p,d,f1,f2⟩ h aU;have gV:=aw.ah h aU;have Ek:(au.ah ⟨l,p,d,f1,f2⟩ aU).d=D:=((aW.ah _ _).d).trans hd;generalize au.is ⟨l,p,d,f1,f2⟩ 4 aU=B1 at a1;generalize au.ah ⟨l,p,d,f1,f2⟩ aU=c1 at a1 gV Ek hR;obtain ⟨l1,p1,d1,f1,g1⟩:=c1;have a2:=hK _ gV Ek;have mK:=Ly.ok hk gV Ek;have Q0:(K ⟨l1,p1,d1,f1,g1⟩).2.d=D:=((Ly.st hk gV Ek).d).trans Ek;generalize K ⟨l1,p1,d1,f1,g1⟩=c2 at a2 mK Q0 hR;obtain ⟨⟨th2,tp2⟩,l2,p2,d2,f2,g2⟩:=c2;have a3:=bR ⟨l2,p2,d2,f2,g2⟩ mK bH;have rn:=aw.ah mK bH;have VL:(au.ah ⟨l2,p2,d2,f2,g2⟩ bH).d=D:=((aW.ah _ _).d).trans Q0;generalize au.is ⟨l2,p2,d2,f2,g2⟩ 4 bH=B3 at a3;generalize au.ah ⟨l2,p2,d2,f2,g2⟩ bH=c3 at a3 rn VL hR;obtain ⟨l3,p3,d3,f3,g3⟩:=c3;refine br (fun _=>?_) (fun g=>absurd e6 (sU g));refine S9 1 gj a1 ?_;refine aE [0,1] (fun i=>Nat.beq i 7) mo (by decide +kernel) ?_;refine fN 1 rfl tO rfl rfl av av a2 (fun r Zj hΦ _=>?_);obtain ⟨rfl,rfl,_⟩:=hΦ;refine S9 1 gj a3 ?_;subst hR;exact ⟨.v (.bool true),[aH _,cL _],av,av,rfl,rfl,rfl⟩
 refine br (fun g=>absurd (sU g) e6) (fun _=>?_);by_cases e7:w=Xx
 ·have aci:¬ w=Uk:=by rw [e7];decide
  have UM:¬ w=A8:=by rw [e7];decide
  rw [af e1,af e2,af e3,af e4,af e5,af e6,af aci,af UM,zIfP e7] at hR;have a1:=bR ⟨l,p,d,f1,f2⟩ h aU;have gV:=aw.ah h aU;have Ek:(au.ah ⟨l,p,d,f1,f2⟩ aU).d=D:=((aW.ah _ _).d).trans hd;generalize au.is ⟨l,p,d,f1,f2⟩ 4 aU=B1 at a1;generalize au.ah ⟨l,p,d,f1,f2⟩ aU=c1 at a1 gV Ek hR;obtain ⟨l1,p1,d1,f1,g1⟩:=c1;have a2:=ef ⟨l1,p1,d1,f1,g1⟩ gV;have mK:=aw.al gV;have Q0:(au.al ⟨l1,p1,d1,f1,g1⟩).d=D:=((aW.al _).d).trans Ek;generalize au.bf ⟨l1,p1,d1,f1,g1⟩=w2 at a2 hR;generalize au.al ⟨l1,p1,d1,f1,g1⟩=c2 at a2 mK Q0 hR;obtain ⟨ws2,wa2⟩:=w2;obtain ⟨l2,p2,d2,f2,g2⟩:=c2;have a3:=bR ⟨l2,p2,d2,f2,g2⟩ mK bH;have rn:=aw.ah mK bH;have VL:(au.ah ⟨l2,p2,d2,f2,g2⟩ bH).d=D:=((aW.ah _ _).d).trans Q0;generalize au.is ⟨l2,p2,d2,f2,g2⟩ 4 bH=B3 at a3;generalize au.ah ⟨l2,p2,d2,f2,g2⟩ bH=c3 at a3 rn VL hR;obtain ⟨l3,p3,d3,f3,g3⟩:=c3;refine br (fun _=>?_) (fun g=>absurd e7 (sU g));refine S9 1 gj a1 ?_;refine aE [0,1] (fun i=>Nat.beq i 5) mo (by decide +kernel) ?_;refine fN 1 rfl pe rfl rfl av av a2 (fun r Zj hΦ _=>?_);obtain ⟨rfl,rfl,_⟩:=hΦ;refine S9 1 gj a3 ?_;subst hR;exact ⟨.v (.bool true),[aH _,cL _],av,av,rfl,rfl,rfl⟩
 refine br (fun g=>absurd (sU g) e7) (fun _=>?_);by_cases e8:w=Uk
 ·rw [af e1,af e2,af e3,af e4,af e5,af e6,zIfP e8] at hR;have a1:=hPf _ h hd;generalize dH K false ⟨l,p,d,f1,f2⟩=c1 at a1 hR;obtain ⟨pl,l1,p1,d1,f1,g1⟩:=c1;refine br (fun _=>?_) (fun g=>absurd e8 (sU g));refine aE [0,1] (fun _=>false) mo (by decide +kernel) ?_;refine fN 1 rfl Y2 rfl rfl av av a1 (fun r Zj hΦ _=>?_);obtain ⟨rfl,rfl,_⟩:=hΦ;subst hR
  have hX:∀ bx N,CcE bx N (gm (mkPts pl)) (wR pl):=fun bx N=>by
   rw [uE];exact fK _
  exact ⟨.v (.bool true),[aH _,cL _],(o9 hX),(o9 hX),rfl,rfl,rfl⟩
 refine br (fun g=>absurd (sU g) e8) (fun _=>?_);by_cases e9:w=A8
 ·rw [af e1,af e2,af e3,af e4,af e5,af e6,af e8,zIfP e9] at hR;have a1:=hPt _ h hd;generalize dH K true ⟨l,p,d,f1,f2⟩=c1 at a1 hR;obtain ⟨pl,l1,p1,d1,f1,g1⟩:=c1;refine br (fun _=>?_) (fun g=>absurd e9 (sU g));refine aE [0,1] (fun _=>false) mo (by decide +kernel) ?_;refine fN 1 rfl Y2 rfl rfl av av a1 (fun r Zj hΦ _=>?_);obtain ⟨rfl,rfl,_⟩:=hΦ;subst hR
  have hX:∀ bx N,CcE bx N (gm (mkPts pl)) (wR pl):=fun bx N=>by
   rw [uE];exact fK _
  exact ⟨.v (.bool true),[aH _,cL _],(o9 hX),(o9 hX),rfl,rfl,rfl⟩
 refine br (fun g=>absurd (sU g) e9) (fun _=>?_);rw [af e1,af e2,af e3,af e4,af e5,af e6,af e8,af e9,af e7] at hR;subst hR;exact ⟨.v (.bool false),[aH _,cL _],av,av,rfl,rfl,rfl⟩
end
theorem Bp:∀ (n:Nat),n<=24->∀ c,aw c->c.d=24 - n->Ev prog 166 [iQ] [aH c] [] (kV (.agg (cL (pKind n c).1)) (pKind n c).2)
 | 0,_,c,h,hd=>by
  have hp:=dY c h;have he:=A0 c h;have e1:c.enter=false:=by simp [au.enter,hd]
  have e2:c.sk=c.fail 6:=by rw [au.sk,zIfP hd]
  rw [e1,e2] at he;have hR:pKind 0 c=(Um 0 c.aO.a,c.fail 6):=rfl;rw [hR];simp only;generalize c.fail 6=C1 at he ⊢;generalize c.aO=t at hp ⊢;obtain ⟨tk,ta,te,ts,tn⟩:=t;obtain ⟨l,p,d,f1,f2⟩:=c;obtain ⟨l1,p1,d1,f11,f21⟩:=C1;refine eG 42 [.cell 2 36] func166 rfl ntmps166 rfl fun _ _ _ _=>?_;refine S9 1 jx hp ?_;refine S9 1 Hs he ?_;exact ⟨.agg (cL _),[aH _],av,av,rfl,rfl,rfl⟩
 | n + 1,hn,c,h,hd=>by
  have ih:=Bp n (by omega);have hp:=dY c h;have he:=A5 h (by omega);have Pd:({ c with d:=c.d + 1 }:au)=c.deep:=rfl;rw [Pd] at he;have o1:=h.deep (show c.d < 24 by omega);have ht:=qh c.deep o1 1;have hT:c.deep.BR 1=if c.deep.tk 1 then c.deep.aO else ⟨0,0,0,aM,0⟩:=rfl
  have hC:c.deep.VC 1=if c.deep.tk 1 then c.deep.step else c.deep:=rfl
  have JP:c.deep.aO=c.aO:=rfl;rw [hT,hC,JP] at ht
  have d2:c.deep.step.d=24 - n:=by
   rw [(aW.step _).d];show c.d + 1=_;omega
  have hb:=LM ih (wO n (by omega)) c.aO.s c.aO.a c.deep.step o1.step d2;generalize hR:pKind (n + 1) c=R;rw [pKind,JP] at hR
  cases hB:c.deep.tk 1 with
  | false=>
   rw [hB,af (by simp)] at ht hR;rw [af (by simp)] at ht;subst hR;have hw:=iM c.deep o1;have JQ:=oK c.deep.wrong o1.wrong;generalize c.deep.wrong.leave=C3 at JQ ⊢;generalize c.deep.wrong=C2 at hw JQ;generalize c.deep=C1 at he ht hw;generalize c.aO=t at hp ⊢;obtain ⟨tk,ta,te,ts,tn⟩:=t;obtain ⟨l,p,d,f1,f2⟩:=c;obtain ⟨l1,p1,d1,f11,f21⟩:=C1;obtain ⟨l2,p2,d2,f12,f22⟩:=C2;obtain ⟨l3,p3,d3,f13,f23⟩:=C3;refine eG 42 [.cell 2 36] func166 rfl ntmps166 rfl fun _ _ _ _=>?_;refine S9 1 jx hp ?_;refine S9 1 Hs he ?_;refine S9 1 xu ht ?_;refine S9 1 CN hw ?_;refine S9 1 Hr JQ ?_;exact ⟨.agg (cL _),[aH _],av,av,rfl,rfl,rfl⟩
  | true=>
   rw [hB,zIfP rfl] at ht hR;rw [zIfP rfl] at ht;have o2:=o1.step
   have hko:aw (fc (pKind n) c.aO.s c.aO.a c.deep.step).2.2:=by
    cases s8:(fc (pKind n) c.aO.s c.aO.a c.deep.step).1 with
    | true=>exact (D6 (fun c q h hd=>kW n c q h hd (by omega)) (Sm.self o2) d2 s8).sm.ok
    | false=>
     rw [(Bf (fun c q h hd=>kW n c q h hd (by omega)) (q:=([],(0,0))) s8).1];exact o2
   generalize fc (pKind n) c.aO.s c.aO.a c.deep.step=BB at hb hR hko;generalize c.deep.step=C2 at ht hb;obtain ⟨b,⟨th,tp⟩,C3⟩:=BB;simp only at hb hR hko;have GA:=xN C3 9 c.aO.a;have jr:=oK C3 hko;have wg:=oK (C3.cM 9 c.aO.a) (hko.cM 9 c.aO.a);generalize (C3.cM 9 c.aO.a).leave=C6 at wg hR;generalize C3.cM 9 c.aO.a=C5 at GA wg;generalize C3.leave=C4 at jr hR;generalize c.deep=C1 at he ht;generalize c.aO=t at hp hb GA ht;obtain ⟨tk,ta,te,ts,tn⟩:=t;obtain ⟨l,p,d,f1,f2⟩:=c;obtain ⟨l1,p1,d1,f11,f21⟩:=C1;obtain ⟨l2,p2,Q0,f12,f22⟩:=C2;obtain ⟨l3,p3,d3,f13,f23⟩:=C3;obtain ⟨l4,p4,d4,f14,f24⟩:=C4;obtain ⟨l5,p5,d5,f15,f25⟩:=C5;obtain ⟨l6,p6,d6,f16,f26⟩:=C6;refine eG 42 [.cell 2 36] func166 rfl ntmps166 rfl fun _ _ _ _=>?_;refine S9 1 jx hp ?_;refine S9 1 Hs he ?_;refine S9 1 xu ht ?_;refine CallG.KX 1 3 rfl rfl rfl rfl ?_;refine S9 2 YS hb ?_
   cases b with
   | true=>
    rw [zIfP rfl] at hR;subst hR;refine S9 1 Hr jr ?_;exact ⟨.agg (cL _),[aH _],av,av,rfl,rfl,rfl⟩
   | false=>
    rw [af (by simp)] at hR;subst hR;refine S9 1 YT GA ?_;refine S9 1 Hr wg ?_;exact ⟨.agg (cL _),[aH _],av,av,rfl,rfl,rfl⟩
theorem Oh (c:au) (h:aw c) (hd:c.d=0):Ev prog 166 [iQ] [aH c] [] (kV (.agg (cL (pKind 24 c).1)) (pKind 24 c).2):=Bp 24 (zLeR _) c h hd
abbrev UN (c:au) (lo:Wd) (l:List (Wd × Wd)) (n:Nat):St:=⟨[aJ 1 1,(2,⟨[],.v (.slice none 0 0)⟩),(3,⟨[],.sl 4 (ez l) (some 0)⟩),aJ 4 2],[aH c,mL,jK lo],[⟨n,122,4,none⟩]⟩
theorem wU (l:List (Wd × Wd)) (a b:Wd):ez l ++ [Nh (a,b)]=ez (l ++ [(a,b)]):=by simp [ez]
theorem I6 (c:au) (h:aw c):Ev prog 165 [iQ] [aH c] [] (fun r os tk=>r = .sl 4 (ez (cG c).1) none/\os=[aH (cG c).2]/\tk=[]):=by
 generalize hR:cG c=R;unfold cG at hR;have hb:=fH;have h1:=ef c h;have h2:=bR _ h.al eu;have vG:=h.al.ah eu;have hlen:=vG.len;generalize c.al.ah eu=C2 at h2 vG hR hlen;generalize c.al.is 4 eu=B2 at h2;generalize c.al=C1 at h1 h2;generalize c.bf=W at h1 hR;obtain ⟨ws,wa⟩:=W;obtain ⟨l,p,d,f1,f2⟩:=c;obtain ⟨l1,p1,d1,f11,f21⟩:=C1;obtain ⟨l2,p2,d2,f12,f22⟩:=C2;refine eG 25 [.tmp 2] func165 rfl ntmps165 rfl fun _ _ _ _=>?_;refine S9 1 pe h1 ?_;refine S9 1 gj h2 ?_;refine aY (fun j st=>∃ (c1:au) (lo:Wd) (l':List (Wd × Wd)) (n:Nat),st=UN c1 lo l' n/\n=l'.length/\aw c1/\pChain j l' lo c1=R/\(c1.f.1=0->c1.l.length < c1.p + j)/\1<=j/\l'.length + j<=bigN) bigN (UN ⟨l2,p2,d2,f12,f22⟩ ⟨ws,wa⟩ [] 0) (di 3 ⟨0,122,4,none⟩ rfl rfl rfl tJ rfl rfl lW) ⟨⟨l2,p2,d2,f12,f22⟩,⟨ws,wa⟩,[],0,rfl,rfl,vG,hR,fun _=>by show l2.length < p2 + bigN;simp only at hlen;omega,by omega,by simp⟩ ?_;rintro j st ⟨c1,lo,l',n,rfl,hn,MK,cw,az,hj,fO⟩;obtain ⟨j,rfl⟩:∃ m,j=m + 1:=⟨j - 1,by omega⟩;rw [pChain] at cw;have r1:=ef c1 MK;have r2:=cr _ MK.al eu;unfold au.mh at r2;have e1:=(aW.al c1).l;have e2:=@wS c1;have e3:=@D7 c1;have k1:=MK.al;have k2:=k1.step;have e4:c1.al.is 4 eu=true->c1.al.f.1=0/\c1.al.step={ c1.al with p:=c1.al.p + 1 }:=fun hB=>⟨Sm.dA (by decide) hB,uM hB (by decide)⟩;generalize c1.al.is 4 eu=B at r2 cw e4;generalize c1.al.step=C4 at r2 cw k2 e4;generalize c1.al=C3 at r1 r2 cw e1 e2 e3 k1 e4;generalize c1.bf=W at r1 cw;obtain ⟨us,ua⟩:=W;obtain ⟨Q5,Q6⟩:=lo;obtain ⟨l3,p3,d3,f13,f23⟩:=c1;obtain ⟨l4,p4,d4,f14,f24⟩:=C3;obtain ⟨l5,p5,d5,f15,f25⟩:=C4;simp only at az e1 e2 e3;refine S9 1 pe r1 ?_;refine ⟨by rw [dn];exact hn.symm,⟨by simp [maxLen,dn];omega,by simp [dn];omega⟩,?_⟩
 cases B with
 | true=>
  rw [zIfP rfl] at r2 cw;obtain ⟨e5,e6⟩:=e4 rfl;have e2:=e2 e5;have az:=az (e3 e5);injection e6 with e7 e8 e9 e10
  have XW:=k2.lt;simp only at XW e2 e7 e8;subst e7 e8 e1;refine S9 1 dw r2 ?_;exact ⟨UN ⟨l5,p4 + 1,d5,f15,f25⟩ ⟨us,ua⟩ (l' ++ [(⟨Q5,Q6⟩,⟨us,ua⟩)]) (n + 1),(ej 3 (ng (wU l' ⟨Q5,Q6⟩ ⟨us,ua⟩)) (wB1 (wU l' ⟨Q5,Q6⟩ ⟨us,ua⟩))),j,by omega,⟨l5,p4 + 1,d5,f15,f25⟩,_,_,_,rfl,by simp [hn],k2,cw,fun _=>by show l5.length < p4 + 1 + j;omega,by omega,by simp;omega⟩
 | false=>
  rw [af (by simp)] at r2 cw;subst cw;refine S9 1 dw r2 ?_
  have hX:∀ bx N,CcE bx N (ez (l' ++ [(⟨Q5,Q6⟩,⟨us,ua⟩)])) (ez l' ++ [Nh (⟨Q5,Q6⟩,⟨us,ua⟩)]):=fun bx N=>by
   rw [wU];exact fK _
  exact ⟨.sl 4 (ez _) none,[aH _],(o9 hX),(o9 hX),rfl,rfl,rfl⟩
end Go.Proofs.YtfdedoiiahbnnaaGreat
set_option maxRecDepth 100000
namespace Go.Proofs.YtfdedoiiahbnnaaGreat
namespace Dv
open Go Go.RowKit
theorem wV {n0 m0:Nat} {st st':St} (n:Nat) (new:List TkE) (dO:∀ q∈new,q.new=true) (h3:st'.tk=new) (hm:m0=0) (hn:Nat.ble n st.bx.length=true) (h4:Nat.ble n0 n=true) (h2:WeLL n 0 new (st.bx.take n) st'.bx) (h:nf n 0 new st.sl st'.sl):po n0 m0 st st':=by
 have hl:(st.bx.take n).length=n:=by simp_all
 exact ⟨[],st.tk,new,st.bx.take n,st.bx.drop n,by simp [hm],by rw [hl];exact nL h4,rfl,by simpa using h3,dO,(List.take_append_drop n st.bx).symm,by rw [hl,h3];exact h2,by rw [hl,h3];exact h⟩
theorem XX {X:Ctx} {st st':St} (h:po X.n0 X.m0 st st'):Wk X st st':=fun _ _ _ hr=>pE hr h
end Dv
open Go Go.RowKit Dv Go.Proofs.Tryz
theorem rc (l:List (Wd × Ty)) (w:Wd) (t:Ty):dNms l ++ [dNm (w,t)]=dNms (l ++ [(w,t)]):=by simp [dNms]
abbrev scQ (lv:List Wd) (od ty:DV):List DV:=[.sl 2 (bA lv) none,od,ty,.v (.int .i64 0),.v (.int .i64 0),.v (.int .i64 0),.v (.int .i64 0),.v (.int .i64 0),.v (.slice none 0 0),.v (.slice none 0 0),.v (.string ⟨#[]⟩),.v (.int .i64 0)]
abbrev XY (lv:List Wd) (od:List (Wd × Wd)):List DV:=scQ lv (.sl 4 (ez od) (some 0)) (.v (.slice none 0 0))
abbrev Cg (a:List (Wd × Wd)):TkE:=⟨a.length,122,4,none⟩
abbrev ack (n:Nat):TkE:=⟨n,93,11,none⟩
abbrev Em (c:au) (lv:List Wd) (od:List (Wd × Wd)) (l:List (Wd × Ty)) (n:Nat):St:=⟨[aJ 1 1,aJ 2 2,aJ 3 3],[aH c,mL,DT,scQ lv (.sl 4 (ez od) none) (.sl 11 (dNms l) (some 0))],[ack n]⟩
abbrev ahr (c:au) (lv:List Wd):St:=⟨[aJ 1 1,aJ 2 2,aJ 3 3],[aH c,mL,DT,XY lv []],[Cg []]⟩
theorem Bq:∀ (n:Nat) (l:List (Wd × Wd)) (w:Wd) (c:au),(pChain n l w c).1.length<=l.length + n
 | 0,_,_,_=>zLeR _
 | n + 1,l,w,c=>by
  rw [pChain];split
  ·have:=Bq n (l ++ [(w,c.bf)]) c.bf c.al.step
   grind
  ·show (l ++ [_]).length<=_;simp
theorem I7:∀ (n:Nat) (l:List (Wd × Wd)) (w:Wd) (c:au),(pChain n l w c).2.f.1=0->(pChain n l w c).1.length + c.p<=l.length + (pChain n l w c).2.p
 | 0,_,_,_,_=>zLeR _
 | n + 1,l,w,c,h0=>by
  rw [pChain] at h0 ⊢;split at h0
  ·rename_i hi;rw [zIfP hi];have ih:=I7 n _ _ _ h0;have e1:=wS (Sm.dA (by decide) hi)
   grind [uM]
  ·grind [wS]
theorem Eo:∀ (n:Nat) (l:List (Wd × Wd)) (w:Wd) (c:au),0 < n->(pChain n l w c).1 ≠ []
 | 0,_,_,_,h=>absurd h (by decide)
 | 1,l,w,c,_=>by
  rw [pChain];split
  ·rw [pChain];simp
  ·simp
 | n + 2,l,w,c,_=>by
  rw [pChain];split
  ·exact Eo (n + 1) _ _ _ (by omega)
  ·simp
def UO (c:au) (a:List (Wd × Wd)):Prop:=c.f.1=0->a.length<=c.p
theorem XZ (lv:List Wd) (a b:List (Wd × Wd)):XY lv (a ++ b)=scQ lv (.sl 4 (ez a ++ ez b) (some 0)) (.v (.slice none 0 0)):=by simp [XY,ez]
theorem UP (a b:List (Wd × Wd)):Cg (a ++ b)=⟨a.length + (ez b).length,122,4,none⟩:=by simp [Cg,ez]
theorem F8 (lv:List Wd) (c:au) (h:aw c) (a:List (Wd × Wd)) (ha:a.length<=274877906944):Ev prog 164 [.loc 3 0,.loc 1 0] [aH c,mL,DT,XY lv a] [Cg a]
  (fun r os tk=>r = .bo []/\os=[aH (cG c).2,mL,DT,XY lv (a ++ (cG c).1)]/\tk=[Cg (a ++ (cG c).1)]):=by
 have hn:=I6 c h;have hl:(ez a).length=a.length:=dn a;have wg:(ez (cG c).1).length=(cG c).1.length:=dn _
 have hm:(cG c).1.length<=274877906945:=by
  have:=Bq bigN [] c.bf (c.al.ah eu);rw [fH] at this;unfold cG;rw [fH];simpa using this
 have bF:ez (cG c).1 ≠ []:=fun he=>by grind [cG,ez,Eo,fH]
 generalize cG c=R at hn wg hm bF ⊢;obtain ⟨L,l1,p1,d1,f11,f21⟩:=R;obtain ⟨l,p,d,f1,f2⟩:=c;simp only at wg hm bF;refine eG 8 [] func164 rfl ntmps164 rfl fun _ _ _ _=>?_;refine aE [0] (fun i=>Nat.beq i 6) mo (by decide +kernel) ?_;refine fN 1 rfl aeA rfl rfl av av hn (fun r Zj hΦ _=>?_);obtain ⟨rfl,rfl,_⟩:=hΦ;refine ⟨hl,⟨by simp [maxLen,hl,wg];omega,by simp [hl,wg];omega⟩,?_⟩;rw [XZ,UP];exact ⟨.bo [],[aH ⟨l1,p1,d1,f11,f21⟩,mL,DT,scQ lv (.sl 4 (ez a ++ ez L) (some 0)) (.v (.slice none 0 0))],av,av,rfl,rfl,rfl⟩
theorem X0 (lv:List Wd) (c:au) (a:List (Wd × Wd)) (h:aw c) (hi:UO c a) (hf:c.f.1=0):DS (fun _=>mL) (fun _=>DT) (fun a=>XY lv a) Cg yn UO 164 3 1 c a where
 ok:=(uL (l:=a) h).1
 l:=(uL (l:=a) h).2.l
 p:=(uL (l:=a) h).2.p
 inv:=fun h0=>by
  have h0:(cG c).2.f.1=0:=h0;have e1:=I7 bigN [] c.bf (c.al.ah eu) h0;have e2:=((aW.al c).trans (aW.ah c.al eu)).p;have e3:=hi hf;show (a ++ (cG c).1).length<=(cG c).2.p;rw [List.length_append];unfold cG;simp only [List.length_nil] at e1;omega
 ev:=F8 lv c h a (by
  have h1:=h.lt;have h2:=h.len;have h3:=hi hf
  omega)
theorem UQ (c:au) (a:List (Wd × Wd)) (_:aw c) (hi:UO c a):UO (c.ah ⟨#[44]⟩) a:=fun h0=>Nat.le_trans (hi (bI h0)) (qZ c _)
theorem LO (lv:List Wd) (c:au) (h:aw c):Ev prog 160 [iQ,.v (.string aS),.v (.bool true),.fn 164 [] [.loc 3 0,.loc 1 0]] [aH c,mL,DT,XY lv []] [Cg []]
  (fun r os tk=>r = .bo []/\os=[aH (ji c).2,mL,DT,XY lv (ji c).1]/\tk=[Cg (ji c).1]):=by
 have hlen:=h.len;have hb:=fH;have e:=Ej (A:=fun _=>mL) (B:=fun _=>DT) (C:=fun a=>XY lv a) (T:=Cg) (f:=yn) (Inv:=UO) (by decide) (by decide) (fun _=>rfl) (fun _=>rfl) (fun _=>rfl) aez (fun c a hc hi hf=>X0 lv c a hc hi hf) UQ aS bigN c [] h (fun _=>Nat.zero_le _) (by omega)
 have hR:ji c=((nT yn aS bigN c []).2,(nT yn aS bigN c []).1):=by
  unfold ji nT aaa;simp only [Bool.true_and];split<;>rfl
 rw [hR];exact e
theorem I8 (c:au) (h:aw c):Ev prog 160 [iQ,.v (.string aS),.v (.bool false),.fn 161 [] [.loc 3 0,.loc 1 0]] [aH c,mL,DT,P7 []] [DU []]
  (fun r os tk=>r = .bo []/\os=[aH (listF ia aS bigN c []).1,mL,DT,P7 (listF ia aS bigN c []).2]/\tk=[DU (listF ia aS bigN c []).2]):=
 xP bigN c h (by have:=h.len;have:=fH;omega) (.inl (Nat.zero_le _))
set_option maxHeartbeats 4000000 in
theorem F9 (c:au) (h:aw c) (hd:c.d=0):Ev prog 86 [iQ] [aH c] [] (kV (.agg (dt (dQ c).1)) (dQ c).2):=by
 generalize hR:dQ c=R;unfold dQ XD uH kH at hR;have hb:=fH;have s1:=Bh (Sm.self h);have o1:=s1.sm.ok;have d1:(iB c).2.d=0:=by rw [s1.st.d,hd]
 have a1:=jh c h bL;have a2:=bR _ (h.kw bL) bE;have a3:=I8 _ ((h.kw bL).ah bE);have hS1:iB c=((listF ia aS bigN ((c.kw bL).ah bE) []).2,(listF ia aS bigN ((c.kw bL).ah bE) []).1):=rfl;rw [hS1] at hR o1 d1;generalize listF ia aS bigN ((c.kw bL).ah bE) []=R1 at a3 o1 d1 hR;generalize (c.kw bL).ah bE=c2 at a2 a3;generalize (c.kw bL).is 4 bE=B1 at a2;generalize c.kw bL=c1 at a1 a2;obtain ⟨⟨sP,UR,US,rq,sQ⟩,lv⟩:=R1;simp only at a3 o1 d1 hR;have b1:=cI ⟨sP,UR,US,rq,sQ⟩ o1 mM;unfold au.mh at b1;have b2:=bR _ o1.step bE;have o2:=o1.step.ah bE;have s2:=sL (Sm.self o2);have o3:=s2.sm.ok;have d3:(ji ((au.step ⟨sP,UR,US,rq,sQ⟩).ah bE)).2.d=0:=by rw [s2.st.d,(aW.ah _ _).d,(aW.step _).d];exact d1
 have b3:=LO lv _ o2;generalize au.is ⟨sP,UR,US,rq,sQ⟩ 1 mM=B at b1 hR;generalize ji ((au.step ⟨sP,UR,US,rq,sQ⟩).ah bE)=R2 at b3 o3 d3 hR;generalize (au.step ⟨sP,UR,US,rq,sQ⟩).ah bE=c4 at b2 b3;generalize (au.step ⟨sP,UR,US,rq,sQ⟩).is 4 bE=B2 at b2;generalize au.step ⟨sP,UR,US,rq,sQ⟩=c3 at b1 b2;obtain ⟨l,p,d,f1,f2⟩:=c;obtain ⟨l1,p1,Ek,f11,f21⟩:=c1;obtain ⟨l2,p2,d2,f12,f22⟩:=c2;obtain ⟨l3,p3,VL,f13,f23⟩:=c3;obtain ⟨l4,p4,d4,f14,f24⟩:=c4;obtain ⟨od,s2l,s2p,s2d,s2f,s2g⟩:=R2;simp only at b3 o3 d3 hR;refine eG 46 [.cell 2 38] func86 rfl ntmps86 rfl fun _ _ _ _=>?_;refine S9 1 Hm a1 ?_;refine S9 1 gj a2 ?_;refine uB (DU []) (abW ⟨l2,p2,d2,f12,f22⟩ []) rfl ?_ rfl ?_ ?_ rfl rfl ?_
 ·repeat' (first | exact rfl | exact aA rfl | refine ⟨_,_,rfl,?_,?_⟩)
 ·repeat' (first | exact rfl | exact aA rfl | exact cz (zLeR _) rfl | refine ⟨_,_,rfl,?_,?_⟩)
 ·repeat' (first | exact trivial | exact aA rfl | refine ⟨⟨_,rfl,?_⟩,?_⟩)
 refine Ao 4 1 Hn rfl rfl rfl av av a3 (fun r Zj Zi hΦ _ _=>?_);obtain ⟨rfl,rfl,rfl⟩:=hΦ;refine ⟨ahr ⟨sP,UR,US,rq,sQ⟩ lv,XX (wV 4 [Cg []] (by simp [TkE.new,Nat.beq]) rfl rfl rfl rfl (by repeat' (first | exact rfl | exact aA rfl | exact cz (zLeR _) rfl | exact .inr (.inr (.inr (.inl ⟨_,_,_,rfl,rfl⟩))) | refine ⟨_,_,rfl,?_,?_⟩)) wB),?_⟩;cases B;rw [af (by simp)] at b1 hR;clear b2 b3 o3 d3;have o3:=o1;have d3:=d1
 let od:List (Wd × Wd):=[]
 simp only at hR;refine S9 1 gL b1 ?_
 rotate_left
 rw [zIfP rfl] at b1 hR;simp only at hR;refine S9 1 gL b1 ?_;refine S9 1 gj b2 ?_;refine ai 4 1 Hn rfl rfl rfl av av b3 (fun r Zj Zi hΦ _ _=>?_);obtain ⟨rfl,rfl,rfl⟩:=hΦ
 all_goals
  have hlen:=aw.len o3;generalize X1:pTypes bigN [] _=R3 at hR;refine aY (fun j st=>∃ (c1:au) (l:List (Wd × Ty)) (n:Nat),st=Em c1 lv od l n/\n=l.length/\aw c1/\c1.d=0/\pTypes j l c1=R3/\(c1.f.1=0->c1.l.length < c1.p + j)/\1<=j/\l.length + j<=bigN) bigN (Em _ lv od [] 0) (wV 4 [ack 0] (by simp [TkE.new,Nat.beq]) rfl rfl rfl rfl (by repeat' (first | exact rfl | exact aA rfl | exact cz (zLeR _) rfl | exact .inr (.inr (.inr (.inl ⟨_,_,_,rfl,rfl⟩))) | refine ⟨_,_,rfl,?_,?_⟩)) wB) ⟨_,[],0,rfl,rfl,o3,d3,X1,fun _=>by simp only at hlen ⊢;omega,by omega,by simp⟩ ?_;rintro j st ⟨c1,l,n,rfl,hn,h1,vb,cw,az,hj,fO⟩;obtain ⟨m,rfl⟩:∃ m,j=m + 1:=⟨j - 1,by omega⟩;rw [pTypes] at cw;have r1:=cI c1 h1 fu;unfold au.mh at r1
  cases s8:c1.is 1 fu with
  | true=>
   rw [s8,zIfP rfl] at r1 cw;have f1:c1.f.1=0:=Sm.dA (by decide) s8;have az:=az f1;have o1:=h1.step;have s1:=uM s8 (by decide);have jr:=o1.lt;rw [s1] at jr;have s2:=(aW.al c1.step).trans (aW.ah c1.step.al j1);have d2:(c1.step.al.ah j1).d=0:=by rw [s2.d,(aW.step _).d,vb]
   have o2:=o1.al.ah j1;have s3:=VI.st o2 d2;have o3:=VI.ok o2 d2;have r2:=ef _ o1;have r3:=bR _ o1.al j1;have r4:=Oh _ o2 d2
   have Wf:c1.p + 1<=(pKind 24 (c1.step.al.ah j1)).2.p:=by
    have:=s2.p;have:=s3.p;rw [s1] at *;simp only at *;omega
   have NC:(pKind 24 (c1.step.al.ah j1)).2.l=c1.l:=by rw [s3.l,s2.l,(aW.step _).l]
   have XO:(pKind 24 (c1.step.al.ah j1)).2.d=0:=by rw [s3.d,d2]
   generalize pKind 24 (c1.step.al.ah j1)=T at r4 cw o3 Wf NC XO;generalize c1.step.al.is 4 j1=B3 at r3;generalize c1.step.al.ah j1=v3 at r3 r4;generalize c1.step.al=v2 at r2 r3;generalize c1.step.bf=W at r2 cw;generalize c1.step=v1 at r1 r2;obtain ⟨x0,y0,z0,u0,t0⟩:=c1;obtain ⟨x1,y1,z1,u1,t1⟩:=v1;obtain ⟨x2,y2,z2,u2,t2⟩:=v2;obtain ⟨x3,y3,z3,u3,t3⟩:=v3;obtain ⟨ws,wa⟩:=W;obtain ⟨⟨th,tp⟩,x4,y4,z4,u4,t4⟩:=T;simp only at az Wf NC XO cw o3 jr;refine S9 1 gL r1 ?_;refine S9 1 pe r2 ?_;refine S9 1 gj r3 ?_;refine S9 1 tO r4 ?_;refine ⟨by rw [bS];exact hn.symm,⟨by simp [maxLen,bS];omega,by simp [bS];omega⟩,?_⟩;exact ⟨Em ⟨x4,y4,z4,u4,t4⟩ lv od (l ++ [(⟨ws,wa⟩,.mk th tp)]) (n + 1),(ej 4 (ng (rc l ⟨ws,wa⟩ (.mk th tp))) (wB1 (rc l ⟨ws,wa⟩ (.mk th tp)))),m,by omega,_,_,_,rfl,by simp [hn],o3,XO,cw,fun _=>by show x4.length < y4 + m;rw [NC];omega,by omega,by simp;omega⟩
  | false=>
   rw [s8,af (by simp)] at r1 cw;subst cw;simp only at hR;have r6:=jh c1 h1 cm;have d5:(c1.kw cm).d=0:=by rw [(aW.kw _ _).d,vb]
   have r7:=Oh _ (h1.kw cm) d5;generalize pKind 24 (c1.kw cm)=T at r7 hR;generalize c1.kw cm=v5 at r6 r7;obtain ⟨x5,y5,z5,u5,t5⟩:=v5;obtain ⟨⟨th,tp⟩,x6,y6,z6,u6,t6⟩:=T;obtain ⟨x0,y0,z0,u0,t0⟩:=c1;simp only at hR;subst hR;refine S9 1 gL r1 ?_;refine S9 1 Hm r6 ?_;refine S9 1 tO r7 ?_;exact ⟨.agg (dt _),[aH _],av,av,rfl,rfl,rfl⟩
end Go.Proofs.YtfdedoiiahbnnaaGreat
set_option maxRecDepth 100000
namespace Go.Proofs.YtfdedoiiahbnnaaGreat
open Go Go.RowKit Dv Go.Proofs.Tryz
theorem RS.mA (q:RS):q.on.1.length<=q.1.length:=by
 show q.1.tail.length<=_;rw [List.length_tail];omega
theorem RS.Oi (q:RS):q.wr.1.length<=q.1.length:=by
 unfold RS.wr;split<;>exact zLeR _
theorem RS.ek (q:RS) (k:Int) (s:ByteArray):(q.ah k s).1.length<=q.1.length:=by
 unfold RS.ah;split
 ·split
  ·exact q.mA
  ·exact q.Oi
 ·exact zLeR _
theorem RS.wW (q:RS) (k:Int):(q.any k).1.length<=q.1.length:=by
 unfold RS.any;split
 ·exact q.mA
 ·exact q.Oi
theorem RS.jm (q:RS):q.aT.1.length<=q.1.length:=q.wW 1
theorem Oj:∀ (n:Nat) (l:List Wd) (q:RS),(rLab n l q).2.1.length<=q.1.length
 | 0,_,_=>zLeR _
 | n + 1,l,q=>by
  rw [rLab];split
  ·exact Nat.le_trans (Oj n _ _) (Nat.le_trans (RS.mA _) q.jm)
  ·exact q.jm
theorem Er (q:RS):(iA q).2.1.length<=q.1.length:=Oj _ _ _
theorem Ga (q:RS):(pw q).2.1.length<=q.1.length:=Nat.le_trans (RS.ek _ _ _) (Nat.le_trans (RS.wW _ _) (RS.ek _ _ _))
theorem Bs (k n a:Int) (q:RS):(mv k n a q).2.1.length<=q.1.length:=by
 unfold mv;split
 ·exact Nat.le_trans (Er _) q.mA
 ·exact zLeR _
theorem LP (q:RS):(dz q).2.1.length<=q.1.length:=by
 unfold dz;split
 ·split
  ·repeat' split
   ·exact Nat.le_trans (Bs _ _ _ _) (Nat.le_trans (Ga _) q.mA)
   ·exact Nat.le_trans (Bs _ _ _ _) (Nat.le_trans (Ga _) q.mA)
   ·exact Nat.le_trans (Bs _ _ _ _) q.mA
   ·exact zLeR _
  ·exact q.Oi
 ·exact zLeR _
theorem acp (x:Ph) (q:RS):(Lm x q).2.1.length<=q.1.length:=by
 unfold Lm;split
 ·exact Nat.le_trans (Er _) q.mA
 ·exact zLeR _
theorem acq (x:Ph) (q:RS):(JS x q).2.1.length<=q.1.length:=by
 unfold JS;split
 ·exact Nat.le_trans (RS.wW _ _) q.mA
 ·exact zLeR _
theorem acr (x:Ph) (q:RS):(GH x q).2.1.length<=q.1.length:=by
 unfold GH;split
 ·exact Nat.le_trans (LP _) q.mA
 ·exact zLeR _
theorem Et (x:Ph) (q:RS):(gh x q).2.1.length<=q.1.length:=Nat.le_trans (acr _ _) (Nat.le_trans (acq _ _) (acp _ _))
theorem Gb {β:Type} {g:List β->RS->List β × RS} (hg:∀ l q,(g l q).2.1.length<=q.1.length) {e:ByteArray}:∀ (n:Nat) (l:List β) (q:RS),(rLst g e n l q).2.1.length<=q.1.length
 | 0,_,_=>zLeR _
 | n + 1,l,q=>by
  rw [rLst];split
  ·split
   ·exact Nat.le_trans (RS.mA _) (hg l q)
   ·exact Nat.le_trans (Gb hg n _ _) (Nat.le_trans (RS.ek _ _ _) (hg l q))
  ·exact zLeR _
section
variable {K:RS->Ty × RS} (hK:∀ q,(K q).2.1.length<=q.1.length)
include hK
theorem Bt (tag:Bool) (q:RS):(dN K tag q).2.1.length<=q.1.length:=by
 unfold dN;split
 ·unfold Ba;split
  ·exact Nat.le_trans (Et _ _) (Nat.le_trans (RS.ek _ _ _) (Nat.le_trans (hK _) (Nat.le_trans (RS.mA _) q.jm)))
  ·exact q.jm
 ·exact Nat.le_trans (Et _ _) (Nat.le_trans (hK _) (Nat.le_trans (RS.ek _ _ _) q.jm))
theorem Eu (tag:Bool) (q:RS):(gU K tag q).2.1.length<=q.1.length:=by
 unfold gU;split
 ·grind [RS.mA,RS.ek]
 ·exact Nat.le_trans (Gb (fun l q=>Bt hK tag q) _ _ _) (RS.ek _ _ _)
theorem UT (w:ByteArray) (a:Int) (p:RS):(rL K w a p).2.1.length<=p.1.length:=by
 have h1:=RS.ek p 4 aU;unfold rL
 repeat' split
 ·exact zLeR _
 ·grind [RS.ek,RS.wW]
 ·exact Ga _
 ·exact Nat.le_trans (Gb (fun l q=>RS.jm q) _ _ _) h1
 ·grind [RS.ek,RS.wW]
 ·grind [RS.ek]
 ·exact Eu hK _ _
 ·exact Eu hK _ _
 ·grind [RS.ek,RS.jm]
 ·exact zLeR _
end
theorem qp:∀ (n:Nat) (q:RS),(rKind n q).2.1.length<=q.1.length
 | 0,q=>by
  rw [rKind];split<;>exact zLeR _
 | n + 1,q=>by
  rw [rKind];split
  ·split
   ·exact Nat.le_trans (UT (qp n) _ _ _) q.mA
   ·exact q.Oi
  ·exact zLeR _
set_option maxHeartbeats 4000000 in
theorem xU:∀ (n:Nat) (d:Int) (q:RS),d + n=24->0<=d->bP q->aR prog 183 [.agg (jD q),.v (.int .i64 d)] (.bo [.agg (cL (rKind n q).1),.agg (jD (rKind n q).2)])
 | 0,d,q,hd,BP,h=>by
  generalize hR:rKind 0 q=R;rw [rKind] at hR;have h1:=cj q;have hc:=h.cons;generalize hT:q.hd=t at hR hc;by_cases h0:q.2.1=0
  ·rw [zIfP h0] at hR;obtain ⟨t',r,e1,rfl⟩:=hc h0;rw [decide_eq_true h0] at h1;obtain ⟨l,f1,f2⟩:=q;simp only at e1 h0;subst e1;obtain ⟨tk,ta,te,ts,tn⟩:=t;simp only at hR;refine eG 183 [.cell 4 36,.cell 5 167] func183 rfl ntmps183 rfl fun _ _ _ _=>?_;refine cP gI h1 ?_;refine ⟨_,⟨by omega,rfl⟩,?_⟩;refine br (fun _=>?_) (fun g=>absurd (show 23 < d by omega) (of_decide_eq_false g));subst hR;refine aE [1,2] (fun _=>false) mo (by decide +kernel) ?_;exact ⟨_,ax,rfl⟩
  ·rw [af h0] at hR;subst hR;rw [decide_eq_false h0] at h1;obtain ⟨l,f1,f2⟩:=q;refine eG 183 [.cell 4 36,.cell 5 167] func183 rfl ntmps183 rfl fun _ _ _ _=>?_;refine cP gI h1 ?_;refine aE [1,2] (fun _=>false) mo (by decide +kernel) ?_;exact ⟨_,ax,rfl⟩
 | n + 1,d,q,hd,BP,h=>by
  have hK:=fun q h=>xU n (d + 1) q (by omega) (by omega) h;have hk:=lR n;have fO:=qp n;have hPf:=fun q h=>uQ (tag:=false) (fun q h=>F7 hK hk q h) (fun q h=>Bc hk h) (fun q _=>Bt fO false q) q h;have hPt:=fun q h=>uQ (tag:=true) (fun q h=>LK hK hk q h) (fun q h=>Bc hk h) (fun q _=>Bt fO true q) q h;have hw:IntKind.i64.wrap (d + 1)=d + 1:=wrap64 (by omega) (by omega);rw [<- hw] at hK hPf hPt;generalize hR:rKind (n + 1) q=R;rw [rKind] at hR;have h1:=cj q;have hc:=h.cons;have h3:=jl q h;have h4:=kJ q h;have hO:=h.on;generalize q.wr=W at hR h4;generalize hT:q.hd=t at hR hc hO;by_cases h0:q.2.1=0
  ·rw [zIfP h0] at hR;have h3:=h3 h0;have hO:=hO h0;obtain ⟨t',r,e1,rfl⟩:=hc h0;rw [decide_eq_true h0] at h1;generalize q.on=O at h3 hO hR;obtain ⟨l,f1,f2⟩:=q;simp only at e1 h0;subst e1;obtain ⟨tk,ta,te,ts,tn⟩:=t;obtain ⟨wl,wf1,wf2⟩:=W;obtain ⟨ol,pA,ph⟩:=O;simp only at hR;refine eG 183 [.cell 4 36,.cell 5 167] func183 rfl ntmps183 rfl fun _ _ _ _=>?_;refine cP gI h1 ?_;refine ⟨_,⟨by omega,rfl⟩,?_⟩;refine br (fun g=>absurd (of_decide_eq_true g) (by omega)) (fun _=>?_);by_cases lX:tk=1
   ·rw [zIfP lX] at hR;have hO:=hO (by show ¬ tk=0;omega);refine br (fun g=>absurd lX (sU g)) (fun _=>?_);refine cP pI h3 ?_;unfold rL at hR;by_cases e1:ts=xO
    ·rw [zIfP e1] at hR;refine br (fun _=>?_) (fun g=>absurd e1 (sU g));subst hR;refine aE [1,2] (fun _=>false) mo (by decide +kernel) ?_;exact ⟨_,ax,rfl⟩
    rw [af e1] at hR;refine br (fun g=>absurd (sU g) e1) (fun _=>?_);by_cases e2:ts=Xv
    ·rw [zIfP e2] at hR;have a1:=bg (ol,(pA,ph)) hO aU;have gV:=bP.ah hO (k:=4) (by decide) aU;generalize RS.ah (ol,(pA,ph)) 4 aU=s1 at a1 gV hR;obtain ⟨l1,f1,g1⟩:=s1;have a2:=iD (l1,(f1,g1)) gV 2;have mK:=bP.any gV (k:=2) (by decide);generalize RS.lP (l1,(f1,g1)) 2=t2 at a2 hR;generalize RS.any (l1,(f1,g1)) 2=s2 at a2 mK hR;obtain ⟨tk2,ta2,te2,ts2,tn2⟩:=t2;obtain ⟨l2,f2,g2⟩:=s2;have a3:=bg (l2,(f2,g2)) mK lO;have rn:=bP.ah mK (k:=4) (by decide) lO;generalize RS.ah (l2,(f2,g2)) 4 lO=s3 at a3 rn hR;obtain ⟨l3,f3,g3⟩:=s3;have a4:=iD (l3,(f3,g3)) rn 2;have LN:=bP.any rn (k:=2) (by decide);generalize RS.lP (l3,(f3,g3)) 2=t4 at a4 hR;generalize RS.any (l3,(f3,g3)) 2=s4 at a4 LN hR;obtain ⟨tk4,ta4,te4,ts4,tn4⟩:=t4;obtain ⟨l4,f4,g4⟩:=s4;have a5:=bg (l4,(f4,g4)) LN bH;have h5':=bP.ah LN (k:=4) (by decide) bH;generalize RS.ah (l4,(f4,g4)) 4 bH=s5 at a5 h5' hR;obtain ⟨l5,f5,g5⟩:=s5;refine br (fun _=>?_) (fun g=>absurd e2 (sU g));refine cP eF a1 ?_;refine cP zI a2 ?_;refine cP eF a3 ?_;refine cP zI a4 ?_;refine cP eF a5 ?_;subst hR;refine aE [1,2] (fun _=>false) mo (by decide +kernel) ?_;exact ⟨_,ax,rfl⟩
    rw [af e2] at hR;refine br (fun g=>absurd (sU g) e2) (fun _=>?_);by_cases e3:ts=NW
    ·rw [zIfP e3] at hR;have a1:=Bo _ hO;generalize pw (ol,(pA,ph))=s1 at a1 hR;obtain ⟨nn,l1,f1,g1⟩:=s1;refine br (fun _=>?_) (fun g=>absurd e3 (sU g));refine cP R8 a1 ?_;subst hR;refine aE [1,2] (fun _=>false) mo (by decide +kernel) ?_;exact ⟨_,ax,rfl⟩
    rw [af e3] at hR;refine br (fun g=>absurd (sU g) e3) (fun _=>?_);by_cases e4:ts=NX
    ·rw [zIfP e4] at hR;have a1:=bg (ol,(pA,ph)) hO aU;have gV:=bP.ah hO (k:=4) (by decide) aU;generalize RS.ah (ol,(pA,ph)) 4 aU=s1 at a1 gV hR;obtain ⟨l1,f1,g1⟩:=s1;have a2:=uP bH _ gV;generalize kr bH bigN [] (l1,(f1,g1))=s2 at a2 hR;obtain ⟨nl,l2,f2,g2⟩:=s2;refine br (fun _=>?_) (fun g=>absurd e4 (sU g));refine cP eF a1 ?_;refine cP MU a2 ?_;subst hR;refine aE [1,2] (fun _=>false) mo (by decide +kernel) ?_;exact ⟨_,ax,rfl⟩
    rw [af e4] at hR;refine br (fun g=>absurd (sU g) e4) (fun _=>?_);by_cases e5:ts=NY
    ·rw [zIfP e5] at hR;have a1:=bg (ol,(pA,ph)) hO aU;have gV:=bP.ah hO (k:=4) (by decide) aU;generalize RS.ah (ol,(pA,ph)) 4 aU=s1 at a1 gV hR;obtain ⟨l1,f1,g1⟩:=s1;have a2:=hK (l1,(f1,g1)) gV;have mK:=hk (l1,(f1,g1)) gV;generalize rKind n (l1,(f1,g1))=s2 at a2 mK hR;obtain ⟨⟨th2,tp2⟩,l2,f2,g2⟩:=s2;have a3:=bg (l2,(f2,g2)) mK bG;have rn:=bP.ah mK (k:=4) (by decide) bG;generalize RS.ah (l2,(f2,g2)) 4 bG=s3 at a3 rn hR;obtain ⟨l3,f3,g3⟩:=s3;have a4:=iD (l3,(f3,g3)) rn 2;have LN:=bP.any rn (k:=2) (by decide);generalize RS.lP (l3,(f3,g3)) 2=t4 at a4 hR;generalize RS.any (l3,(f3,g3)) 2=s4 at a4 LN hR;obtain ⟨tk4,ta4,te4,ts4,tn4⟩:=t4;obtain ⟨l4,f4,g4⟩:=s4;have a5:=bg (l4,(f4,g4)) LN bH;have h5':=bP.ah LN (k:=4) (by decide) bH;generalize RS.ah (l4,(f4,g4)) 4 bH=s5 at a5 h5' hR;obtain ⟨l5,f5,g5⟩:=s5;refine br (fun _=>?_) (fun g=>absurd e5 (sU g));refine cP eF a1 ?_;refine cP ni a2 ?_;refine cP eF a3 ?_;refine cP zI a4 ?_;refine cP eF a5 ?_;subst hR;refine aE [1,2] (fun _=>false) mo (by decide +kernel) ?_;exact ⟨_,ax,rfl⟩
    rw [af e5] at hR;refine br (fun g=>absurd (sU g) e5) (fun _=>?_);by_cases e6:ts=Xw
    ·rw [zIfP e6] at hR;have a1:=bg (ol,(pA,ph)) hO aU;have gV:=bP.ah hO (k:=4) (by decide) aU;generalize RS.ah (ol,(pA,ph)) 4 aU=s1 at a1 gV hR;obtain ⟨l1,f1,g1⟩:=s1;have a2:=hK (l1,(f1,g1)) gV;have mK:=hk (l1,(f1,g1)) gV;generalize rKind n (l1,(f1,g1))=s2 at a2 mK hR;obtain ⟨⟨th2,tp2⟩,l2,f2,g2⟩:=s2;have a3:=bg (l2,(f2,g2)) mK bH;have rn:=bP.ah mK (k:=4) (by decide) bH;generalize RS.ah (l2,(f2,g2)) 4 bH=s3 at a3 rn hR;obtain ⟨l3,f3,g3⟩:=s3;refine br (fun _=>?_) (fun g=>absurd e6 (sU g));refine cP eF a1 ?_;refine cP ni a2 ?_;refine cP eF a3 ?_;subst hR;refine aE [1,2] (fun _=>false) mo (by decide +kernel) ?_;exact ⟨_,ax,rfl⟩
    rw [af e6] at hR;refine br (fun g=>absurd (sU g) e6) (fun _=>?_);by_cases e7:ts=Uk
    ·rw [zIfP e7] at hR;have a1:=hPf _ hO;generalize gU (rKind n) false (ol,(pA,ph))=s1 at a1 hR;obtain ⟨pl,l1,f1,g1⟩:=s1;refine br (fun _=>?_) (fun g=>absurd e7 (sU g));refine cP YW a1 ?_;subst hR
     have hX:∀ bx N,CcE bx N (gm (mkPts pl)) (wR pl):=fun bx N=>by
      rw [uE];exact fK _
     refine aE [1,2] (fun _=>false) mo (by decide +kernel) ?_;exact ⟨_,(o9 hX),rfl⟩
    rw [af e7] at hR;refine br (fun g=>absurd (sU g) e7) (fun _=>?_);by_cases e8:ts=A8
    ·rw [zIfP e8] at hR;have a1:=hPt _ hO;generalize gU (rKind n) true (ol,(pA,ph))=s1 at a1 hR;obtain ⟨pl,l1,f1,g1⟩:=s1;refine br (fun _=>?_) (fun g=>absurd e8 (sU g));refine cP YW a1 ?_;subst hR
     have hX:∀ bx N,CcE bx N (gm (mkPts pl)) (wR pl):=fun bx N=>by
      rw [uE];exact fK _
     refine aE [1,2] (fun _=>false) mo (by decide +kernel) ?_;exact ⟨_,(o9 hX),rfl⟩
    rw [af e8] at hR;refine br (fun g=>absurd (sU g) e8) (fun _=>?_);by_cases e9:ts=Xx
    ·rw [zIfP e9] at hR;have a1:=bg (ol,(pA,ph)) hO aU;have gV:=bP.ah hO (k:=4) (by decide) aU;generalize RS.ah (ol,(pA,ph)) 4 aU=s1 at a1 gV hR;obtain ⟨l1,f1,g1⟩:=s1;have a2:=dT (l1,(f1,g1)) gV;have mK:=bP.name gV;generalize RS.name (l1,(f1,g1))=w2 at a2 hR;generalize RS.aT (l1,(f1,g1))=s2 at a2 mK hR;obtain ⟨ws2,wa2⟩:=w2;obtain ⟨l2,f2,g2⟩:=s2;have a3:=bg (l2,(f2,g2)) mK bH;have rn:=bP.ah mK (k:=4) (by decide) bH;generalize RS.ah (l2,(f2,g2)) 4 bH=s3 at a3 rn hR;obtain ⟨l3,f3,g3⟩:=s3;refine br (fun _=>?_) (fun g=>absurd e9 (sU g));refine cP eF a1 ?_;refine cP pJ a2 ?_;refine cP eF a3 ?_;subst hR;refine aE [1,2] (fun _=>false) mo (by decide +kernel) ?_;exact ⟨_,ax,rfl⟩
    rw [af e9] at hR;refine br (fun g=>absurd (sU g) e9) (fun _=>?_);subst hR;refine aE [1,2] (fun _=>false) mo (by decide +kernel) ?_;exact ⟨_,ax,rfl⟩
   ·rw [af lX] at hR;refine br (fun _=>?_) (fun g=>absurd (sU g) lX);subst hR;refine aE [1,2] (fun _=>false) mo (by decide +kernel) ?_;refine cD MV h4 ?_;exact ⟨_,ax,rfl⟩
  ·rw [af h0] at hR;subst hR;rw [decide_eq_false h0] at h1;obtain ⟨l,f1,f2⟩:=q;refine eG 183 [.cell 4 36,.cell 5 167] func183 rfl ntmps183 rfl fun _ _ _ _=>?_;refine cP gI h1 ?_;refine aE [1,2] (fun _=>false) mo (by decide +kernel) ?_;exact ⟨_,ax,rfl⟩
theorem I9 {q:RS} (h:¬ q.2.1=0) (k:Int) (s:ByteArray):q.ah k s=q:=by
 unfold RS.ah;rw [af h]
theorem LQ {q:RS} {k:Int} {s:ByteArray} (h:(q.ah k s).2.1=0):q.2.1=0:=Classical.byContradiction fun hb=>by
 rw [I9 hb] at h;exact hb h
theorem LR {q:RS} (h:q.aT.2.1=0):q.2.1=0:=I0 h
theorem uR (l:List (Wd × Wd)) (a b:Wd):ez l ++ [Nh (a,b)]=ez (l ++ [(a,b)]):=by simp [ez]
abbrev Gc (q:RS) (l:List (Wd × Wd)) (n:Nat):St:=⟨[aJ 1 0,(2,⟨[],.v (.slice none 0 0)⟩),aJ 3 1,(6,⟨[],.sl 4 (ez l) (some 0)⟩)],[jD q,Qq],[⟨n,122,4,none⟩]⟩
abbrev yR (q1 q:RS) (lo:Wd) (b:Bool) (l:List (Wd × Wd)) (n:Nat):St:=⟨[aJ 1 0,(2,⟨[],.v (.slice none 0 0)⟩),aJ 3 1,(6,⟨[],.sl 4 (ez l) (some 0)⟩),aJ 7 2,aJ 8 3,zt 9 b],[jD q1,Qq,jK lo,jD q],[⟨n,122,4,none⟩]⟩
set_option maxHeartbeats 2000000 in
theorem Gd (q:RS) (h:bP q):aR prog 181 [.agg (jD q)] (.bo [.sl 4 (ez (mO q).1) none,.agg (jD (mO q).2)]):=by
 generalize hR:mO q=R;unfold mO at hR;have hb:=fH;have hlen:=h.len;have pm:=bX q h aS;rw [RS.fI] at pm;generalize q.dZ aS=B at pm hR;generalize q.on=O at pm hR;obtain ⟨ol,pA,ph⟩:=O;obtain ⟨ql,UG,VK⟩:=q
 cases B with
 | true=>
  rw [zIfP rfl] at pm hR;subst hR;refine eG 59 [.tmp 2,.cell 3 167] func181 rfl ntmps181 rfl fun _ _ _ _=>?_;refine cP c9 pm ?_;refine aE [1] (fun _=>false) mo (by decide +kernel) ?_;exact ⟨_,ax,rfl⟩
 | false=>
  rw [af (by simp)] at pm hR;unfold FX at hR;refine eG 59 [.tmp 2,.cell 3 167] func181 rfl ntmps181 rfl fun _ _ _ _=>?_;refine cP c9 pm ?_;generalize hNN:ql.length=N at hlen;refine aY (fun j st=>∃ (q1:RS) (l:List (Wd × Wd)) (n:Nat),st=Gc q1 l n/\n=l.length/\bP q1/\rLst mw aS j l q1=R/\(q1.2.1=0->q1.1.length < j/\l.length + q1.1.length<=N)/\1<=j) bigN (Gc (ql,(UG,VK)) [] 0) (di 2 ⟨0,122,4,none⟩ rfl rfl rfl tJ rfl rfl lW) ⟨(ql,(UG,VK)),[],0,rfl,rfl,h,hR,fun _=>⟨by show ql.length < _;omega,by show 0 + ql.length<=N;omega⟩,by omega⟩ ?_;rintro j st ⟨q1,l,n,rfl,hn,h1,cw,az,hj⟩;obtain ⟨m,rfl⟩:∃ m,j=m + 1:=⟨j - 1,by omega⟩;rw [rLst] at cw;have p0:=cj q1;by_cases h0:q1.2.1=0
  ·rw [zIfP h0] at cw;rw [decide_eq_true h0] at p0;have lk:=h1.pos h0;obtain ⟨az,hlN⟩:=az h0;have p1:=dT q1 h1;have p2:=bg _ h1.name eu;have vG:=h1.name.ah (k:=4) (by decide) eu;have wg:=RS.jm q1;have acs:=RS.ek q1.aT 4 eu;have hCk:=@Bd l q1 h1;generalize hC:mw l q1=C at cw hCk;unfold mw at hC;generalize q1.aT.ah 4 eu=q3 at p2 vG acs hC;generalize q1.aT=q2 at p1 p2 wg acs;generalize q1.name=W at p1 hC;obtain ⟨q1l,q1f,q1g⟩:=q1;obtain ⟨q2l,q2f,q2g⟩:=q2;obtain ⟨q3l,q3f,q3g⟩:=q3;obtain ⟨ws,wa⟩:=W;obtain ⟨C1,C2⟩:=C;simp only at az hlN lk wg acs cw hCk;refine cP gI p0 ?_;refine cP pJ p1 ?_;refine cP eF p2 ?_;refine aY (fun j st=>∃ (q5:RS) (lo:Wd) (b:Bool) (l5:List (Wd × Wd)) (n5:Nat),st=yR (q1l,(q1f,q1g)) q5 lo b l5 n5/\n5=l5.length/\bP q5/\((b=true/\rChain j l5 lo q5=(C1,C2)/\(q5.2.1=0->q5.1.length < j)/\1<=j/\l5.length<=N)∨(b=false/\(l5,q5)=(C1,C2)))/\(q5.2.1=0->l5.length + q5.1.length<=N/\q5.1.length<=q1l.length)) bigN (yR (q1l,(q1f,q1g)) (q3l,(q3f,q3g)) ⟨ws,wa⟩ true l n) (ej 4 tJ lW) ⟨(q3l,(q3f,q3g)),⟨ws,wa⟩,true,l,n,rfl,hn,vG,.inl ⟨rfl,hC,fun _=>by show q3l.length < _;omega,by omega,by omega⟩,fun _=>⟨by show l.length + q3l.length<=N;omega,by show q3l.length<=_;omega⟩⟩ ?_;rintro i st ⟨q5,lo,b,l5,n5,rfl,hn5,h5,A4,XW⟩;rcases A4 with ⟨rfl,A4,acu,hi,hN5⟩ | ⟨rfl,A4⟩
   ·obtain ⟨i,rfl⟩:∃ m,i=m + 1:=⟨i - 1,by omega⟩;rw [rChain] at A4;have r1:=dT q5 h5;have r2:=bX _ h5.name eu;have k2:=@bP.gG q5.aT h5.name eu;have e2:=@RS.NZ q5.aT h5.name eu;have e1:=@RS.FV q5 h5 1;have e3:=@RS.IK q5.aT eu;have e4:=@LR q5;have k1:=h5.name;have hed:q5.aT=q5.any 1:=rfl;rw [<- hed] at e1;rw [RS.fI] at r2;generalize q5.aT.dZ eu=B5 at r2 k2 e2 A4 e3;generalize q5.aT.on=O5 at r2 k2 e2 A4;generalize q5.aT=S5 at r1 r2 e1 e2 A4 e3 e4 k1;generalize q5.name=W5 at r1 A4;obtain ⟨q5l,q5f,q5g⟩:=q5;obtain ⟨s5l,s5f,s5g⟩:=S5;obtain ⟨o5l,o5f,o5g⟩:=O5;obtain ⟨us,ua⟩:=W5;obtain ⟨Q5,Q6⟩:=lo;simp only at acu XW e1 e2 e3 e4;refine cP pJ r1 ?_;refine ⟨by rw [dn];exact hn5.symm,⟨by simp [maxLen,dn];omega,by simp [dn];omega⟩,?_⟩
    cases B5 with
    | true=>
     rw [zIfP rfl] at r2 A4;have e3:=e3 rfl;have e2:=e2 rfl;have e1:=e1 e3;have e4:=e4 e3;have acu:=acu e4;obtain ⟨XW,hl6⟩:=XW e4;refine cP c9 r2 ?_;exact ⟨yR (q1l,(q1f,q1g)) (o5l,(o5f,o5g)) ⟨us,ua⟩ true (l5 ++ [(⟨Q5,Q6⟩,⟨us,ua⟩)]) (n5 + 1),(ej 4 (ng (uR l5 ⟨Q5,Q6⟩ ⟨us,ua⟩)) (wB1 (uR l5 ⟨Q5,Q6⟩ ⟨us,ua⟩))),i,by omega,(o5l,(o5f,o5g)),_,true,_,_,rfl,by simp [hn5],k2 rfl,.inl ⟨rfl,A4,fun _=>by show o5l.length < i;omega,by omega,by simp;omega⟩,fun _=>⟨by simp;omega,by show o5l.length<=_;omega⟩⟩
    | false=>
     rw [af (by simp)] at r2 A4;refine cP c9 r2 ?_
     exact ⟨yR (q1l,(q1f,q1g)) (s5l,(s5f,s5g)) ⟨us,ua⟩ false (l5 ++ [(⟨Q5,Q6⟩,⟨us,ua⟩)]) (n5 + 1),(ej 4 (ng (uR l5 ⟨Q5,Q6⟩ ⟨us,ua⟩)) (wB1 (uR l5 ⟨Q5,Q6⟩ ⟨us,ua⟩))),i,by omega,(s5l,(s5f,s5g)),_,false,_,_,rfl,by simp [hn5],k1,.inr ⟨rfl,A4⟩,fun hf=>by
      have e1:=e1 hf;have e4:=e4 hf;obtain ⟨XW,hl6⟩:=XW e4
      exact ⟨by simp;omega,by show s5l.length<=_;omega⟩⟩
   ·injection A4 with c1 c2
    subst c1 c2;have s2:=bX _ h5 aS;have s3:=bg _ h5 bG;have hk3:=bP.ah h5 (k:=4) (by decide) bG;have LJ:=@RS.uD q5 h5 4 bG;have hl4:=@LQ q5 4 bG;rw [RS.fI] at s2;generalize q5.dZ aS=B5 at s2 cw;generalize q5.on=O5 at s2 cw;generalize q5.ah 4 bG=D at s3 cw hk3 LJ hl4;obtain ⟨q5l,q5f,q5g⟩:=q5;obtain ⟨o5l,o5f,o5g⟩:=O5;obtain ⟨dl,df,dg⟩:=D;simp only at XW LJ hl4
    cases B5 with
    | true=>
     rw [zIfP rfl] at s2 cw;subst cw;refine cP c9 s2 ?_;refine aE [1] (fun _=>false) mo (by decide +kernel) ?_;exact ⟨_,ax,rfl⟩
    | false=>
     rw [af (by simp)] at s2 cw;refine cP c9 s2 ?_;refine cP eF s3 ?_
     exact ⟨Gc (dl,(df,dg)) l5 n5,(ej 2 tJ lW),m,by omega,(dl,(df,dg)),_,_,rfl,hn5,hk3,cw,fun hf=>by
      have a1:=LJ hf;obtain ⟨a2,a3⟩:=XW (hl4 hf)
      exact ⟨by show dl.length < m;omega,by show l5.length + dl.length<=N;omega⟩,by omega⟩
  ·rw [af h0] at cw;rw [decide_eq_false h0] at p0;subst cw;obtain ⟨ql,UG,VK⟩:=q1;refine cP gI p0 ?_;refine aE [1] (fun _=>false) mo (by decide +kernel) ?_;exact ⟨_,ax,rfl⟩
theorem nU (l:List (Wd × Ty)) (w:Wd) (t:Ty):dNms l ++ [dNm (w,t)]=dNms (l ++ [(w,t)]):=by simp [dNms]
abbrev sc16 (lv:List Wd) (od:List (Wd × Wd)) (ty:DV):List DV:=[.sl 2 (bA lv) none,.sl 4 (ez od) none,ty,.v (.int .i64 0),.v (.int .i64 0),.v (.int .i64 0),.v (.int .i64 0),.v (.int .i64 0),.v (.slice none 0 0),.v (.slice none 0 0),.v (.string ⟨#[]⟩),.v (.int .i64 0)]
abbrev oS (q:RS) (lv:List Wd) (od:List (Wd × Wd)) (l:List (Wd × Ty)) (n:Nat):St:=⟨[aJ 1 0,aJ 2 1,aJ 3 2,aJ 4 3],[jD q,DT,Qq,sc16 lv od (.sl 11 (dNms l) (some 0))],[⟨n,93,11,none⟩]⟩
theorem uS (q:RS) (h:bP q):aR prog 183 [.agg (jD q),.v (.int .i64 0)] (.bo [.agg (cL (rKind 24 q).1),.agg (jD (rKind 24 q).2)]):=xU 24 0 q (by decide) (by decide) h
set_option maxHeartbeats 4000000 in
theorem Ch (q:RS) (h:bP q):aR prog 95 [.agg (jD q)] (.bo [.agg (dt (gK q).1),.agg (jD (gK q).2)]):=by
 generalize hR:gK q=R;unfold gK Un Qb at hR;have hb:=fH;have a1:=eL q h 1 bL;have o1:=bP.ah h (k:=1) (by decide) bL;have a2:=bg _ o1 bE;have o2:=bP.ah o1 (k:=4) (by decide) bE;have a3:=uP aS _ o2;have o3:=N2 h;have hS1:FY q=kr aS bigN [] ((q.ah 1 bL).ah 4 bE):=rfl;rw [hS1] at hR o3;generalize kr aS bigN [] ((q.ah 1 bL).ah 4 bE)=R1 at a3 o3 hR;generalize (q.ah 1 bL).ah 4 bE=q2 at a2 a3;generalize q.ah 1 bL=q1 at a1 a2;obtain ⟨ql,qf,qg⟩:=q;obtain ⟨q1l,q1f,q1g⟩:=q1;obtain ⟨q2l,q2f,q2g⟩:=q2;obtain ⟨lv,sP,rq,sQ⟩:=R1;simp only at hR o3;have b0:=cj (sP,(rq,sQ));have b1:=fun h0=>nR (sP,(rq,sQ)) o3 h0 1 mM;have b2:=jl (sP,(rq,sQ)) o3;have Ta:RS.BS (sP,(rq,sQ)) mM=(decide (rq=0) && RS.is (sP,(rq,sQ)) 1 mM):=rfl;unfold Cf at hR;generalize hB:RS.BS (sP,(rq,sQ)) mM=B at hR Ta;by_cases hf:rq=0;have b1:=b1 hf;have b2:=b2 hf;rw [decide_eq_true hf,Bool.true_and] at Ta;have b0:aR prog 97 [.agg (jD (sP,(rq,sQ)))] (.v (.bool true)):=by grind
 rw [<- Ta] at b1;cases B;rw [af (by simp)] at hR;have c5:=o3
 let od:List (Wd × Wd):=[]
 simp only at hR;refine eG 67 [.cell 2 38,.cell 3 167] func95 rfl ntmps95 rfl fun _ _ _ _=>?_;refine cP yg a1 ?_;refine cP eF a2 ?_;refine cP MU a3 ?_;refine cP gI b0 ?_;refine cP rA b1 ?_
 rotate_left
 rw [zIfP rfl] at hR;have c1:=bP.Qd o3 hB;have c2:=bg _ c1 bE;have c3:=c1.ah (k:=4) (by decide) bE;have c4:=Gd _ c3;have c5:=D1 c3;generalize mO ((RS.on (sP,(rq,sQ))).ah 4 bE)=R2 at c4 c5 hR;generalize (RS.on (sP,(rq,sQ))).ah 4 bE=q4 at c2 c4;generalize RS.on (sP,(rq,sQ))=q3 at b2 c2;obtain ⟨q3l,q3f,q3g⟩:=q3;obtain ⟨q4l,q4f,q4g⟩:=q4;obtain ⟨od,s2l,s2f,s2g⟩:=R2;simp only at hR c5;refine eG 67 [.cell 2 38,.cell 3 167] func95 rfl ntmps95 rfl fun _ _ _ _=>?_;refine cP yg a1 ?_;refine cP eF a2 ?_;refine cP MU a3 ?_;refine cP gI b0 ?_;refine cP rA b1 ?_;refine cP pI b2 ?_;refine cP eF c2 ?_;refine cP aeC c4 ?_
 rotate_left
 rw [decide_eq_false hf,Bool.false_and] at Ta;rw [Ta,af (by simp)] at hR;have c5:=o3
 let od:List (Wd × Wd):=[]
 simp only at hR
 have b0:aR prog 97 [.agg (jD (sP,(rq,sQ)))] (.v (.bool false)):=by
  have:=b0
  rwa [decide_eq_false (show ¬ ((sP,(rq,sQ)):RS).2.1=0 from hf)] at this
 refine eG 67 [.cell 2 38,.cell 3 167] func95 rfl ntmps95 rfl fun _ _ _ _=>?_;refine cP yg a1 ?_;refine cP eF a2 ?_;refine cP MU a3 ?_;refine cP gI b0 ?_
 all_goals
  generalize X1:rTypes bigN [] _=R3 at hR;have hlen:=bP.len c5;refine aY (fun j st=>∃ (q1:RS) (l:List (Wd × Ty)) (n:Nat),st=oS q1 lv od l n/\n=l.length/\bP q1/\rTypes j l q1=R3/\(q1.2.1=0->q1.1.length < j)/\1<=j/\l.length + j<=bigN) bigN (oS _ lv od [] 0) (di 4 ⟨0,93,11,none⟩ rfl rfl rfl (by repeat' (first | exact rfl | exact aA rfl | exact EU | exact cz (zLeR _) rfl | exact cz (zLeR _) rfl | refine ⟨_,_,rfl,?_,?_⟩)) rfl rfl (by repeat' (first | exact trivial | exact aA rfl | exact EU | exact cz (zLeR _) rfl | refine ⟨⟨_,rfl,?_⟩,?_⟩))) ⟨_,[],0,rfl,rfl,c5,X1,fun _=>by omega,by omega,by simp⟩ ?_;rintro j st ⟨q1,l,n,rfl,hn,h1,cw,az,hj,fO⟩;obtain ⟨m,rfl⟩:∃ m,j=m + 1:=⟨j - 1,by omega⟩;rw [rTypes] at cw;have r0:=cj q1;by_cases h0:q1.2.1=0
  rotate_left
  rw [decide_eq_false h0] at r0;have qu:q1.BS fu=(decide (q1.2.1=0) && q1.is 1 fu):=rfl;rw [decide_eq_false h0,Bool.false_and] at qu;rw [qu,af (by simp)] at cw;subst cw;simp only at hR;refine cP gI r0 ?_
  rotate_left
  rw [decide_eq_true h0] at r0;have r1:=nR q1 h1 h0 1 fu;have qu:q1.BS fu=(decide (q1.2.1=0) && q1.is 1 fu):=rfl;rw [decide_eq_true h0,Bool.true_and] at qu;rw [<- qu] at r1;have az:=az h0;cases s8:q1.BS fu;rw [s8] at r1;rw [s8,af (by simp)] at cw;subst cw;simp only at hR;refine cP gI r0 ?_;refine cP rA r1 ?_
  rotate_left
  ·rw [s8] at r1;rw [s8,zIfP rfl] at cw;have k1:=h1.Qd s8;have e1:=RS.wK h1 h0;have e2:=RS.jm q1.on;have e3:=RS.ek q1.on.aT 4 j1;have e4:=qp 24 (q1.on.aT.ah 4 j1);have r2:=jl q1 h1 h0;have r3:=dT _ k1;have r4:=bg _ k1.name j1;have k2:=k1.name.ah (k:=4) (by decide) j1;have r5:=uS _ k2;have k3:=lR 24 _ k2;generalize rKind 24 (q1.on.aT.ah 4 j1)=T at r5 k3 e4 cw;generalize q1.on.aT.ah 4 j1=v3 at r4 r5 e3 e4;generalize q1.on.aT=v2 at r3 r4 e2 e3;generalize q1.on.name=W at r3 cw;generalize q1.on=v1 at r2 r3 e1 e2;obtain ⟨x0,y0,z0⟩:=q1;obtain ⟨x1,y1,z1⟩:=v1;obtain ⟨x2,y2,z2⟩:=v2;obtain ⟨x3,y3,z3⟩:=v3;obtain ⟨ws,wa⟩:=W;obtain ⟨⟨th,tp⟩,x4,y4,z4⟩:=T;simp only at az e1 e2 e3 e4 cw k3;refine cP gI r0 ?_;refine cP rA r1 ?_;refine cP pI r2 ?_;refine cP pJ r3 ?_;refine cP eF r4 ?_;refine cP ni r5 ?_;refine ⟨by rw [bS];exact hn.symm,⟨by simp [maxLen,bS];omega,by simp [bS];omega⟩,?_⟩;exact ⟨oS (x4,(y4,z4)) lv od (l ++ [(⟨ws,wa⟩,.mk th tp)]) (n + 1),(ej 4 (ng (nU l ⟨ws,wa⟩ (.mk th tp))) (wB1 (nU l ⟨ws,wa⟩ (.mk th tp)))),m,by omega,(x4,(y4,z4)),_,_,rfl,by simp [hn],k3,cw,fun _=>by show x4.length < m;omega,by omega,by simp;omega⟩
  all_goals
   have r6:=eL q1 h1 1 cm;have r7:=uS _ (bP.ah h1 (k:=1) (by decide) cm);generalize rKind 24 (q1.ah 1 cm)=T at r7 hR;generalize q1.ah 1 cm=v5 at r6 r7;obtain ⟨x5,y5,z5⟩:=v5;obtain ⟨⟨th,tp⟩,x6,y6,z6⟩:=T;obtain ⟨x0,y0,z0⟩:=q1;simp only at hR;subst hR;refine cP yg r6 ?_;refine cP ni r7 ?_;refine aE [1,2] (fun _=>false) mo (by decide +kernel) ?_;exact ⟨_,ax,rfl⟩
end Go.Proofs.YtfdedoiiahbnnaaGreat
set_option maxRecDepth 100000
namespace Go.Proofs
open Go.Shelf
def Tryz.laysB_ren:Go.Shelf.Ren:=⟨fun | 240=>117 | 276=>203 | n=>n,fun | 9=>9 | 4=>4 | 0=>0 | 20=>20 | 72=>113 | 70=>110 | 37=>111 | 164=>287 | 5=>5 | n=>n,fun | n=>n⟩
theorem Tryz.laysB:Go.Proofs.Lays.n240 Tryz.prog Tryz.laysB_ren:={
 mixed:=by kernel_rfl
 f240:=Tryz.func117.trans (congrArg some (by kernel_rfl))
 f276:=Tryz.func203.trans (congrArg some (by kernel_rfl))
 t0:=Tryz.underlying0
 a0:=Tryz.isAgg0
 z0:=Tryz.sizeOf0
 v0:=Tryz.zeroValue0
 t4:=Tryz.underlying4
 a4:=Tryz.isAgg4
 z4:=Tryz.sizeOf4
 v4:=Tryz.zeroValue4
 t9:=Tryz.underlying9
 a9:=Tryz.isAgg9
 z9:=Tryz.sizeOf9
 v9:=Tryz.zeroValue9
 t20:=Tryz.underlying20
 a20:=Tryz.isAgg20
 z20:=Tryz.sizeOf20
 v20:=Tryz.zeroValue20
 t70:=Tryz.underlying110
 a70:=Tryz.isAgg110
 z70:=Tryz.sizeOf110
 v70:=Tryz.zeroValue110
 t72:=Tryz.underlying113
 a72:=Tryz.isAgg113
 z72:=Tryz.sizeOf113
 v72:=Tryz.zeroValue113
 t164:=Tryz.underlying287
 a164:=Tryz.isAgg287
 z164:=Tryz.sizeOf287
 v164:=Tryz.zeroValue287 }
theorem Tryz.laysBX:Builder.Extra Tryz.prog Tryz.laysB_ren:={
 sizeBuilder:=by kernel_rfl
 liesBuilder:=by kernel_rfl
 t5:=Tryz.underlying5
 a5:=Tryz.isAgg5
 z5:=Tryz.sizeOf5
 v5:=Tryz.zeroValue5
 infoByte:=by kernel_rfl
 cellsByte:=by kernel_rfl
 sizeByte:=by kernel_rfl
 neB5:=by decide }
end Go.Proofs
set_option maxRecDepth 100000
namespace Go.Proofs.YtfdedoiiahbnnaaGreat
open Go Go.RowKit Go.Lib Dv Go.Proofs.Tryz
theorem oT {P:Program} (w:World) (t u ty e:TypeId) (i:TypeInfo) (ht:P.underlying t=some (.slice e)) (hu:P.underlying u=some .string) (hi:P.info? e=some i) (hz:i.zero=some (.int .u8 0))
  (mT:i.size=1) (BL:i.bytes=1) (v:Value) (n:Nat) (xs:List Value) (dW:w.ownsRow 0 e 1 v n xs) (s:ByteArray) (Vt:n + s.size<=maxLen) (ob:n + s.size<=140737488355328) (hs:0 < s.size) :
  ∃ g cap w',(Builtin.append_ #[t,u] ty #[v,.string s]).run P w = .ok (.slice (some ⟨g,0,none⟩) (n + s.size) cap) w' /\ w'.ownsRow 0 e 1 (.slice (some ⟨g,0,none⟩) (n + s.size) cap) (n + s.size) (xs ++ strCells s)/\w.grownBy w' v.ownBlock /\
   ((v.ownBlock=some g)∨(w.heap.size<=g/\∀ k,k < w.heap.size->w'.heap[k]? = w.heap[k]?)):=by
 obtain ⟨v',w',hr,h2,h3,h4⟩:=Lib.run_append_own_string (P:=P) w 0 t u ty e i ht hu hi hz mT BL v n xs dW s Vt ob (Nat.zero_le _);have Rc:n + s.size<=9223372036854775807:=by simp only [maxLen] at Vt;omega
 have MC:xs.length=n:=by simpa using dW.1
 rcases dW.2 with ⟨rfl,rfl⟩ | ⟨g,cap,cur,rfl,hbg,hg,Cq,hcm,cx,htake⟩
 ·have ki:=run_append_nil_string (P:=P) w t u ty e i (.int .u8 0) ht hu hi hz s hs (by omega) (by rw [BL];omega);rw [ki] at hr;injection hr with e1 e2
  subst e1;simp only [Nat.zero_add] at *;exact ⟨_,_,w',by rw [ki,e2],h2,h3,.inr ⟨zLeR _,fun k hk=>by rw [<- e2];exact Below.heap_alloc w.drew _ k hk⟩⟩
 ·by_cases Mr:n + s.size<=cap
  ·have hcs':cur.size=cap:=sU cx;have ki:=Lib.run_append_room_string (P:=P) w t u ty e i ht hu hi mT g n cap cur hg s Mr (by omega);rw [ki] at hr;injection hr with e1 e2
   subst e1;exact ⟨_,_,w',by rw [ki,e2],h2,h3,.inl rfl⟩
  ·have holds:∀ j u,xs[j]? = some u->w.cell? ((⟨g,0,none⟩:Addr).add j)=some u:=dW.cells (g:=g) rfl;have ki:=Lib.run_append_grow_string (P:=P) w t u ty e i (.int .u8 0) ht hu hi hz ⟨g,0,none⟩ n cap xs (by rw [mT];simpa using MC) holds s (by omega) (by omega) (by rw [BL];exact growslice_fits (by omega) (by omega));rw [ki] at hr;injection hr with e1 e2
   subst e1;exact ⟨_,_,w',by rw [ki,e2],h2,h3,.inr ⟨zLeR _,fun k hk=>by rw [<- e2];exact Below.heap_alloc w.drew _ k hk⟩⟩
theorem Ja {w:World} {b:Nat} {o:Obj} (h:w.heap[b]? = some o):World.dc w b o=w:=by
 obtain ⟨hb,hg⟩:=Array.getElem?_eq_some_iff.1 h;have e:w.heap.setIfInBounds b o=w.heap:=by grind
 show { w with heap:=w.heap.setIfInBounds b o }=w;rw [e]
abbrev wX (w:World) (b:Nat) (v:Value):World:=World.dc w b (.cells #[.pointer (some ⟨b,0,none⟩),v] 113 (0,0))
theorem UU (b:Nat) (p v:Value) (w:World) (hp:p = .pointer none∨p = .pointer (some ⟨b,0,none⟩)) (Qu:w.heap[b]? = some (.cells #[p,v] 113 (0,0))) :
  Calls prog 117 #[.pointer (some ⟨b,0,none⟩)] w fun e w'=>e = .returned (.tuple #[])/\w'=wX w b v:=by
 rcases hp with rfl | rfl
 ·refine (Any.Builder_copyCheck_fresh Tryz.laysB Tryz.laysBX.toX72 b w (by rw [Lib.cell_of_heap Qu];rfl) (by simp [World.shape?,Qu,Tryz.laysB_ren]) (by simp [World.frozen?,Qu])).mono ?_;rintro e w' ⟨rfl,rfl⟩;exact ⟨rfl,by rw [k0 Qu];rfl⟩
 ·refine (Any.Builder_copyCheck_used Tryz.laysB Tryz.laysBX.toX72 b w (by rw [Lib.cell_of_heap Qu];rfl)).mono ?_;rintro e w' ⟨rfl,rfl⟩;exact ⟨rfl,(Ja Qu).symm⟩
theorem sR {P:Program} {w:World} {ops:Array Oper} {rest:List Oper} {o:Oper} {a:Act} {Q:Exit->Act->World->Prop} (BZ:o.guard=none) (sl x:Operand) (t u:TypeId)
  (ho:o.op = .call { callee:=.builtin .append,args:=#[sl,x],argTypes:=#[t,u] })
  (e:TypeId) (i:TypeInfo) (ht:P.underlying t=some (.slice e)) (hu:P.underlying u=some .string) (hi:P.info? e=some i) (hz:i.zero=some (.int .u8 0))
  (mT:i.size=1) (BL:i.bytes=1)
  (v:Value) (n:Nat) (xs:List Value) (hs:a.eval sl=v) (dW:w.ownsRow 0 e 1 v n xs) (s:ByteArray) (hx:a.eval x = .string s)
  (Vt:n + s.size<=maxLen) (ob:n + s.size<=140737488355328) (lk:0 < s.size)
  (h:∀ g cap w',w'.ownsRow 0 e 1 (.slice (some ⟨g,0,none⟩) (n + s.size) cap) (n + s.size) (xs ++ strCells s)->w.grownBy w' v.ownBlock->((v.ownBlock=some g)∨(w.heap.size<=g/\∀ k,k < w.heap.size->w'.heap[k]? = w.heap[k]?)) ->
   wpList P ops Q rest (a.put o.dst (.slice (some ⟨g,0,none⟩) (n + s.size) cap)) w'):wpList P ops Q (o :: rest) a w:=by
 refine wpList_plain BZ fun K hK=>?_;obtain ⟨g,cap,w',hr,h2,h3,h4⟩:=oT (P:=P) w t u o.type e i ht hu hi hz mT BL v n xs dW s Vt ob lk;unfold Oper.wp execOp;simp only [ho,resolve,invoke,builtin,Sem.run_bind,Sem.run_pure,Result.andThen_ok,List.map_toArray,List.map_cons,List.map_nil,hs,hx,hr];exact hK _ _ (h g cap w' h2 h3 h4)
def UW (ret:Value) (w:World) (b:Nat) (v:Value) (n:Nat) (xs:List Value) (s:ByteArray) (e:Ending) (w':World):Prop:=
 e = .returned ret/\∃ g cap w2,w2.ownsRow 0 5 1 (.slice (some ⟨g,0,none⟩) (n + s.size) cap) (n + s.size) (xs ++ strCells s)/\(wX w b v).grownBy w2 v.ownBlock /\
  ((v.ownBlock=some g)∨((wX w b v).heap.size<=g/\∀ k,k < (wX w b v).heap.size->w2.heap[k]? = (wX w b v).heap[k]?)) /\
  w'=World.dc w2 b (.cells #[.pointer (some ⟨b,0,none⟩),.slice (some ⟨g,0,none⟩) (n + s.size) cap] 113 (0,0))
theorem Ol {w:World} {b e n:Nat} {v:Value} {xs:List Value} {o:Obj} (h:w.ownsRow 0 e 1 v n xs) (bF:v.ownBlock≠some b):(World.dc w b o).ownsRow 0 e 1 v n xs:=by
 refine ⟨h.1,?_⟩;rcases h.2 with h | ⟨g,cap,cur,rfl,h1,h2,h3⟩
 ·exact .inl h
 ·refine .inr ⟨g,cap,cur,rfl,h1,?_,h3⟩;rw [cV]
  ·exact h2
  ·rintro rfl;exact bF rfl
set_option maxHeartbeats 2000000 in
theorem acv (b:Nat) (p v:Value) (n:Nat) (xs:List Value) (s:ByteArray) (w:World) (hp:p = .pointer none∨p = .pointer (some ⟨b,0,none⟩)) (Qu:w.heap[b]? = some (.cells #[p,v] 113 (0,0)))
  (dW:w.ownsRow 0 5 1 v n xs) (bF:v.ownBlock≠some b) (hs:0 < s.size) (hlen:n + s.size<=140737488355328) :
  Calls prog 54 #[.pointer (some ⟨b,0,none⟩),.string s] w (UW (.tuple #[.int .i64 s.size,.nilIface]) w b v n xs s):=by
 obtain ⟨i0,hi,hz0,hz1,hz2⟩:=info_parts Tryz.laysBX.infoByte
 go_enter func54,ntmps54
 go_wp2_with (go_at_call 117;refine (UU b p v _ hp Qu).mono ?_)
 rintro e w1 ⟨rfl,rfl⟩;have mb:(wX w b v).heap[b]? = some (.cells #[.pointer (some ⟨b,0,none⟩),v] 113 (0,0)):=fl Qu;have ZU:(wX w b v).ownsRow 0 5 1 v n xs:=Ol dW bF;have c0:(wX w b v).cell? ⟨b,0,none⟩=some (.pointer (some ⟨b,0,none⟩)):=by rw [Lib.cell_of_heap mb];all_goals rfl
 have c1:(wX w b v).cell? ⟨b,1,none⟩=some v:=by rw [Lib.cell_of_heap mb];all_goals rfl
 have az:b < (wX w b v).heap.size:=dE mb;obtain ⟨W1,hW1⟩:∃ W1,W1=wX w b v:=⟨_,rfl⟩;rw [<- hW1] at mb ZU c0 c1 az ⊢;have HW:=Lib.hid hW1;clear hW1
 go_wp2_with (at_builtin;refine sR rfl _ _ 111 9 rfl 5 i0 Tryz.underlying111 Tryz.underlying9 hi hz0 hz1 hz2 _ _ _ rfl ZU s rfl ?c3 ?c4 hs ?_)
 case c3=>unfold maxLen;omega
 case c4=>omega
 intro g cap w2 ahx Jb JG
 have iI:w2.heap[b]? = some (.cells #[.pointer (some ⟨b,0,none⟩),v] 113 (0,0)):=by
  rw [Jb.block b az (fun e=>bF e.symm)];exact mb
 have d0:w2.cell? ⟨b,0,none⟩=some (.pointer (some ⟨b,0,none⟩)):=by rw [Lib.cell_of_heap iI];all_goals rfl
 have d1:w2.cell? ⟨b,1,none⟩=some v:=by rw [Lib.cell_of_heap iI];all_goals rfl
 have f1:w2.frozen? ⟨b,1,none⟩=false:=Lib.frozen_of_heap iI 1
 go_wp2
 go_ret2
 refine ⟨rfl,g,cap,w2,ahx,by rw [<- HW.out];exact Jb,by rw [<- HW.out];exact JG,?_⟩;rw [k0 iI];rfl
set_option maxHeartbeats 1000000 in
theorem acw (b g cap:Nat) (p:Value) (l:List UInt8) (cur:Array Value) (w:World) (h0:l ≠ []) (Qu:w.heap[b]? = some (.cells #[p,.slice (some ⟨g,0,none⟩) l.length cap] 113 (0,0)))
  (hg:w.heap[g]? = some (.cells cur 5 (0,0))) (Cq:l.length<=cap) (hcm:cap<=maxLen) (cx:cur.size=cap * 1) (htake:cur.toList.take (l.length * 1)=Lib.byteCells l) :
  Calls prog 60 #[.pointer (some ⟨b,0,none⟩)] w fun e w'=>e = .returned (.string ⟨l.toArray⟩)/\w'=w.drew.freeze ⟨g,0,none⟩ l.length:=by
 have Hk:l.length≠0:=sU h0;have dW:w.ownsRow 0 5 1 (.slice (some ⟨g,0,none⟩) l.length cap) l.length (Lib.byteCells l):=⟨by rw [Lib.byteCells_length,Nat.mul_one],.inr ⟨g,cap,cur,rfl,Nat.zero_le _,hg,Cq,hcm,cx,htake⟩⟩
 have c1:w.drew.cell? ⟨b,1,none⟩=some (.slice (some ⟨g,0,none⟩) l.length cap):=by
  have:w.drew.heap[b]? = some (.cells #[p,.slice (some ⟨g,0,none⟩) l.length cap] 113 (0,0)):=Qu;rw [Lib.cell_of_heap this];all_goals rfl
 have hSD:(Builtin.unsafeSliceData_ #[111] 199 #[.slice (some ⟨g,0,none⟩) l.length cap]).run prog w.drew = .ok (.pointer (some ⟨g,0,none⟩)) w.drew:=
  Lib.run_unsafeSliceData_row _ _ _ _ _ _ (by omega)
 have hUS:(Builtin.unsafeString_ #[199,3] 9 #[.pointer (some ⟨g,0,none⟩),.int .i64 l.length]).run prog w.drew = .ok (.string ⟨l.toArray⟩) (w.drew.freeze ⟨g,0,none⟩ l.length):=by
  refine Lib.run_unsafeString_row w.drew 199 3 9 5 Tryz.underlying199 (by kernel_rfl) g cur.size (by have za:w.drew.heap[g]? = some (.cells cur 5 (0,0)):=hg;simp [World.shape?,za]) l h0 (by omega) (by unfold maxLen at hcm;omega) ?_;intro j x hx;have:=dW.cells (g:=g) rfl j (.int .u8 x.toNat) (by simp [Lib.byteCells,hx]);exact this
 clear dW htake cx hg;have mixed:=mo
 go_enter func60,ntmps60
 go_wp2
 go_region_o
 all_goals (go_wp2;go_ret;exact ⟨rfl,rfl⟩)
end Go.Proofs.YtfdedoiiahbnnaaGreat
set_option maxRecDepth 100000
namespace Go.Proofs.YtfdedoiiahbnnaaGreat
open Go Go.RowKit Dv Go.Proofs.Tryz
def bD (l:List UInt8):List (List DV):=l.map fun c=>[DV.v (.int .u8 c.toNat)]
theorem wY (l:List UInt8):(bD l).length=l.length:=by simp [bD]
theorem UX {E:En}:∀ l:List UInt8,RvC E (bD l).flatten (Lib.byteCells l)
 | []=>⟨cW _,by simp [Lib.byteCells]⟩
 | c :: r=>by
  obtain ⟨h1,h2⟩:=UX (E:=E) r;refine ⟨?_,fun v hv=>?_⟩
  ·simp only [bD,List.map_cons,List.flatten_cons,List.cons_append,List.nil_append,Lib.byteCells];exact rvL_cons (by unfold Rv;exact ⟨rfl,rfl⟩) h1
  ·simp only [Lib.byteCells,List.map_cons,List.mem_cons] at hv;rcases hv with rfl | hv
   ·rfl
   ·exact h2 v hv
theorem Om {E:En}:∀ {l:List UInt8} {arr:List Value},RvL E (bD l).flatten arr->arr=Lib.byteCells l
 | [],arr,h=>by simpa [bD,RvL,Lib.byteCells] using h
 | c :: r,arr,h=>by
  simp only [bD,List.map_cons,List.flatten_cons,List.cons_append,List.nil_append,RvL] at h;obtain ⟨v,s,rfl,h1,h2⟩:=h;unfold Rv at h1;rw [h1.1,Om (l:=r) h2];rfl
theorem strCells_eq (s:ByteArray):Lib.strCells s=Lib.byteCells s.data.toList:=rfl
theorem UY {X:Ctx} {E:En} {st:St} {a:Act} {w:World} (h:Rel X E st a w) {kt:Nat} {l:List UInt8} {cv:Value} (hl:l ≠ []) (jt:st.tk[kt]? = some ⟨l.length,5,1,none⟩) (hv:Rv E (.sl 1 (bD l) (some kt)) cv) :
  ∃ g cap cur,cv = .slice (some ⟨g,0,none⟩) l.length cap/\w.heap[g]? = some (.cells cur 5 (0,0))/\l.length<=cap/\cap<=maxLen/\cur.size=cap * 1/\cur.toList.take (l.length * 1)=Lib.byteCells l/\g ∉ E.β/\E.τ[kt]? = some cv:=by
 have bF:bD l ≠ []:=by grind [wY]
 have lk:0 < l.length:=List.length_pos_iff.2 hl;unfold Rv at hv;obtain ⟨bs,ns,nb,rfl,⟨rfl,nc⟩,Yr,zg⟩:=hv;rw [wY] at nc;obtain ⟨q,hq,_,hτ⟩:=zg kt rfl;rw [h.tk,jt] at hq;simp only [oI] at hq;subst hq;have hy:=hτ (wY l);rcases h.env.dh kt _ _ (by rw [h.tk];exact jt) hy with ⟨qI,tj⟩ | ⟨g,cap,cur,qI,sZ,xm,Cq,hcm,ib,J4⟩
 ·simp only at tj;omega
 ·injection qI with i1 i2 i3
  subst i1 i3;refine ⟨g,nb,cur,by rw [wY],sZ,Cq,hcm,xm.1,?_,ib,by rw [hy]⟩;obtain ⟨_,VZ⟩:=Yr bF;obtain ⟨OM,mb,iI,MD⟩:=VZ.yZ;have ha:=Om mb.1;subst ha;apply List.ext_getElem?;intro j;rw [wY] at iI;rcases Nat.lt_or_ge j (Lib.byteCells l).length with hj | hj
  ·have h5:=h.env.sub _ _ (MD j _ (gE hj));simp only [ab,ao,Nat.zero_add] at h5;rw [cO sZ] at h5;rw [cJ,zIfP (by omega),gE hj];simpa using h5
  ·grind
theorem X2 {X:Ctx} {E:En} {st:St} {a:Act} {w:World} (h:Rel X E st a w) {kt:Nat} {l:List UInt8} {cv:Value} (jt:st.tk[kt]? = some ⟨l.length,5,1,none⟩) (hv:Rv E (.sl 1 (bD l) (some kt)) cv) :
  w.ownsRow 0 5 1 cv l.length (Lib.byteCells l)/\E.τ[kt]? = some cv/\∀ b∈E.β,cv.ownBlock≠some b:=by
 cases l with
 | cons c r=>
  obtain ⟨g,cap,cur,rfl,hg,Cq,hcm,cx,htake,hgb,hτ⟩:=UY h (List.cons_ne_nil c r) jt hv;refine ⟨⟨by rw [Lib.byteCells_length,Nat.mul_one],.inr ⟨g,cap,cur,rfl,Nat.zero_le _,hg,Cq,hcm,cx,htake⟩⟩,hτ,fun b hb he=>?_⟩;simp only [Value.ownBlock,oI] at he;exact hgb (he ▸ hb)
 | nil=>
  unfold Rv at hv;obtain ⟨bs,ns,nb,rfl,⟨rfl,nc⟩,Yr,zg⟩:=hv;obtain ⟨q,hq,_,hτ⟩:=zg kt rfl;rw [h.tk,jt] at hq;simp only [oI] at hq;subst hq;have hy:=hτ rfl;rcases h.env.dh kt _ _ (by rw [h.tk];exact jt) hy with ⟨qI,tj⟩ | ⟨g,cap,cur,qI,sZ,xm,Cq,hcm,ib,J4⟩
  ·rw [qI] at hy ⊢;exact ⟨⟨rfl,.inl ⟨rfl,rfl⟩⟩,hy,fun b _ he=>by simp [Value.ownBlock] at he⟩
  ·rw [qI] at hy ⊢;refine ⟨⟨rfl,.inr ⟨g,cap,cur,rfl,Nat.zero_le _,sZ,Cq,hcm,xm.1,by simp [Lib.byteCells]⟩⟩,hy,fun b hb he=>?_⟩;simp only [Value.ownBlock,oI] at he;exact ib (he ▸ hb)
theorem UZ {f:FuncId} {xd rd:DV} {ret:Value} {X:Ctx} {st:St} {k:List It} (hP:X.P=prog) {i kt d:Nat} {p c:DV} {l:List UInt8} {s:ByteArray} {Zi:List TkE} (hbt:(i,113)∈X.bt) (lV:st.bx[i]? = some [p,c])
  (hp:p = .v (.pointer none)∨p = .loc i 0)
  (hc:(c = .v (.slice none 0 0)/\l=[]/\kt=st.tk.length/\Zi=st.tk ++ [⟨s.size,5,1,none⟩])∨(c = .sl 1 (bD l) (some kt)/\st.tk[kt]? = some ⟨l.length,5,1,none⟩/\Zi=st.tk.set kt ⟨l.length + s.size,5,1,none⟩))
  (gY:Enters prog f) (QZ:∀ E,Rv E rd ret)
  (OH:∀ (E:En) (b n:Nat) (p v x:Value) (xs:List Value) (w:World),Rv E xd x->p = .pointer none∨p = .pointer (some ⟨b,0,none⟩)->w.heap[b]? = some (.cells #[p,v] 113 (0,0))->w.ownsRow 0 5 1 v n xs->v.ownBlock≠some b->n + s.size<=140737488355328->Calls prog f #[.pointer (some ⟨b,0,none⟩),x] w (UW ret w b v n xs s))
  (hs:0 < s.size) (hlen:l.length + s.size<=140737488355328) (hd:fU X.nt st.sl (some d)=true)
  (hk:go X 4000 k ⟨(d,⟨[],rd⟩) :: st.sl,st.bx.set i [.loc i 0,.sl 1 (bD (l ++ s.data.toList)) (some kt)],Zi⟩)
  (hst:X.still=false:=by exact rfl):CallG X f [.loc i 0,xd] (some d) k st:=by
 refine ⟨?_,hst,fun E a w vs h hv=>?_⟩
 ·rw [hP];exact gY
 rw [hP];simp only [RvL] at hv;obtain ⟨v1,vr,rfl,h1,v2,vr2,rfl,h2,rfl⟩:=hv;unfold Rv at h1;obtain ⟨b,hb,rfl⟩:=h1;obtain ⟨b',ty,arr,fj,hw,sY⟩:=h.env.eQ i _ lV;rw [hb] at fj;simp only [oI] at fj;subst fj;obtain ⟨Yw,Bu⟩:=h.bt _ hbt b hb;rw [hw] at Bu;simp only [oI,Obj.cells.injEq] at Bu;have hty:ty=113:=Bu.2.1;subst hty;obtain ⟨hr,ho⟩:=sY;simp only [RvL] at hr;obtain ⟨pv,r1,rfl,hpv,cv,r2,rfl,VJ,rfl⟩:=hr
 have hpv':pv = .pointer none∨pv = .pointer (some ⟨b,0,none⟩):=by
  rcases hp with rfl | rfl
  ·exact .inl (bN hpv)
  ·unfold Rv at hpv;obtain ⟨b2,iI,rfl⟩:=hpv;rw [hb] at iI;simp only [oI] at iI;subst iI;exact .inr rfl
 have CL:b∈E.β:=mG hb;have Oo:st.tk.length=E.tk.length:=by rw [h.tk]
 have key:∃ xs:List Value,xs=Lib.byteCells l/\w.ownsRow 0 5 1 cv l.length xs/\cv.ownBlock≠some b /\
   ((∃ q,E.tk[kt]? = some q/\E.τ[kt]? = some cv/\q.n=l.length/\q.ty=5/\q.e=1/\q.own=none)∨(E.tk[kt]? = none/\E.τ[kt]? = none/\cv = .slice none 0 0/\l.length=0)) /\
   Zi[kt]? = some ⟨l.length + s.size,5,1,none⟩/\(∀ j,j≠kt->Zi[j]? = E.tk[j]?)/\(∀ y:Value,∃ τ':List Value,τ'[kt]? = some y/\τ'.length=Zi.length/\∀ j,j≠kt->τ'[j]? = E.τ[j]?):=by
  rcases hc with ⟨rfl,rfl,rfl,rfl⟩ | ⟨rfl,jt,rfl⟩
  ·have:=bN VJ;subst this;refine ⟨_,rfl,⟨rfl,.inl ⟨rfl,rfl⟩⟩,by simp [Value.ownBlock],.inr ⟨?_,?_,rfl,rfl⟩,?_,?_,?_⟩
   ·rw [Oo];simp
   ·rw [Oo,<- h.env.tl];simp
   ·simp
   ·intro j hj;rw [h.tk];rcases Nat.lt_or_ge j st.tk.length with h1 | h1
    ·rw [eT h1]
    ·grind
   ·intro y;refine ⟨E.τ ++ [y],?_,by simp [h.env.tl,h.tk],fun j hj=>?_⟩
    ·rw [Oo,<- h.env.tl];simp
    ·rcases Nat.lt_or_ge j E.τ.length with h1 | h1
     ·rw [eT h1]
     ·rw [rr (l:=E.τ) h1];have:=h.env.tl;exact rr (by simp;omega)
  ·obtain ⟨dW,hτ,hob⟩:=X2 h jt VJ;have BO:=(gS jt).1;refine ⟨_,rfl,dW,hob b CL,.inl ⟨_,by rw [h.tk];exact jt,hτ,rfl,rfl,rfl,rfl⟩,?_,?_,?_⟩
   ·rw [iR BO]
   ·intro j hj;rw [List.getElem?_set_ne (Ne.symm hj),h.tk]
   ·intro y;refine ⟨E.τ.set kt y,?_,by simp [h.env.tl,h.tk],fun j hj=>List.getElem?_set_ne (Ne.symm hj)⟩;rw [iR];rw [h.env.tl,<- Oo];exact BO
 obtain ⟨xs,rfl,dW,bF,BN,ahz,An,hτ⟩:=key;refine (OH E b l.length pv cv v2 (Lib.byteCells l) w h2 hpv' hw dW bF hlen).mono ?_;rintro e w' ⟨rfl,g,cap,w2,ZV,Jb,JG,rfl⟩;obtain ⟨τ',hτ1,hτ2,QS⟩:=hτ (.slice (some ⟨g,0,none⟩) (l.length + s.size) cap);have Zk:Rv E (.loc i 0) (.pointer (some ⟨b,0,none⟩)):=by unfold Rv;exact ⟨b,hb,rfl⟩
 have r1:Rel X E ⟨st.sl,st.bx.set i [.loc i 0,c],st.tk⟩ a (wX w b cv):=
  kM h hst hb (cs':=[.loc i 0,c]) (arr':=[.pointer (some ⟨b,0,none⟩),cv]) ⟨rvL_cons Zk (rvL_one VJ),by
   intro v hv;simp only [List.mem_cons,List.not_mem_nil,or_false] at hv;rcases hv with rfl | rfl
   ·rfl
   ·exact ho v (by simp)⟩ ⟨_,hw⟩
 obtain ⟨r2,hext,zj⟩:=GV r1 hst BN hs (by omega) ahz hτ1 hτ2 An QS (Ol dW bF) ZV Jb JG;have iI:(wX w b cv).heap[b]? = some (.cells #[.pointer (some ⟨b,0,none⟩),cv] 113 (0,0)):=fl hw
 have MD:w2.heap[b]? = some (.cells #[.pointer (some ⟨b,0,none⟩),cv] 113 (0,0)):=by
  rw [Jb.block b (dE iI) (fun e=>bF e.symm)];exact iI
 have acx:Rv (⟨fJ E.c w2 g ((l.length + s.size) * 1),E.β,Zi,τ'⟩:En) (.sl 1 (bD (l ++ s.data.toList)) (some kt)) (.slice (some ⟨g,0,none⟩) (l.length + s.size) cap):=by
  have qJ:s.data.toList.length=s.size:=by rw [Array.length_toList];all_goals rfl
  unfold Rv;refine ⟨_,_,_,rfl,⟨by rw [wY,List.length_append,qJ],?_⟩,fun _=>⟨rfl,?_⟩,?_⟩
  ·rcases ZV.2 with ⟨hv,_⟩ | ⟨_,_,_,hv,_,_,Cq,_⟩
   ·cases hv
   ·injection hv with _ _ i3
    omega
  ·refine rvEs_flat (arr:=Lib.byteCells (l ++ s.data.toList)) (UX _) (fun cs hcm=>?_) fun j u hj=>?_
   ·grind [bD]
   ·simp only [ab,ao,Nat.zero_add];refine zj j u ?_;rw [strCells_eq];simpa [Lib.byteCells] using hj
  ·intro k' iH;cases iH;exact ⟨_,ahz,zLeR _,fun _=>hτ1⟩
 have r3:=kM r2 hst (i:=i) (b:=b) hb (cs':=[.loc i 0,.sl 1 (bD (l ++ s.data.toList)) (some kt)]) (arr':=[.pointer (some ⟨b,0,none⟩),.slice (some ⟨g,0,none⟩) (l.length + s.size) cap])
  ⟨rvL_cons (by unfold Rv;exact ⟨b,hb,rfl⟩) (rvL_one acx),by
   intro v hv;simp only [List.mem_cons,List.not_mem_nil,or_false] at hv
   rcases hv with rfl | rfl<;>rfl⟩ ⟨_,MD⟩
 simp only [List.set_set] at r3;exact go_sound 4000 _ _ hk _ _ _ (bu r3 hd rd _ (QZ _))
theorem X3 {X:Ctx} {st:St} {k:List It} (hP:X.P=prog) {i kt d:Nat} {p c:DV} {l:List UInt8} {s:ByteArray} {Zi:List TkE} (hbt:(i,113)∈X.bt) (lV:st.bx[i]? = some [p,c])
  (hp:p = .v (.pointer none)∨p = .loc i 0)
  (hc:(c = .v (.slice none 0 0)/\l=[]/\kt=st.tk.length/\Zi=st.tk ++ [⟨s.size,5,1,none⟩])∨(c = .sl 1 (bD l) (some kt)/\l ≠ []/\st.tk[kt]? = some ⟨l.length,5,1,none⟩/\Zi=st.tk.set kt ⟨l.length + s.size,5,1,none⟩))
  (hs:0 < s.size) (hlen:l.length + s.size<=140737488355328) (hd:fU X.nt st.sl (some d)=true)
  (hk:go X 4000 k ⟨(d,⟨[],.bo [.v (.int .i64 s.size),.v .nilIface]⟩) :: st.sl,st.bx.set i [.loc i 0,.sl 1 (bD (l ++ s.data.toList)) (some kt)],Zi⟩)
  (hst:X.still=false:=by exact rfl):CallG X 54 [.loc i 0,.v (.string s)] (some d) k st:=
 UZ hP hbt lV hp (hc.imp_right fun h=>⟨h.1,h.2.2⟩) en54 (fun E=>by unfold Rv;exact ⟨_,rfl,rvL_cons (by unfold Rv;exact ⟨rfl,rfl⟩) (rvL_one (by unfold Rv;exact ⟨rfl,rfl⟩))⟩)
  (fun E b n p v x xs w hx h1 h2 h3 h4 h5=>by
   have:=bN hx;subst this
   exact acv b p v n xs s w h1 h2 h3 h4 hs h5) hs hlen hd hk hst
theorem uT {X:Ctx} {st:St} {k:List It} (hP:X.P=prog) {i kt d:Nat} {p c:DV} {l:List UInt8} {s:ByteArray} {Zi:List TkE} (l':List UInt8) (B6:l'=l ++ s.data.toList) (hbt:(i,113)∈X.bt) (lV:st.bx[i]? = some [p,c])
  (hp:p = .v (.pointer none)∨p = .loc i 0)
  (hc:(c = .v (.slice none 0 0)/\l=[]/\kt=st.tk.length/\Zi=st.tk ++ [⟨l'.length,5,1,none⟩])∨(c = .sl 1 (bD l) (some kt)/\l ≠ []/\st.tk[kt]? = some ⟨l.length,5,1,none⟩/\Zi=st.tk.set kt ⟨l'.length,5,1,none⟩))
  (hs:0 < s.size) (hlen:l'.length<=140737488355328) (hd:fU X.nt st.sl (some d)=true)
  (hk:go X 4000 k ⟨(d,⟨[],.bo [.v (.int .i64 s.size),.v .nilIface]⟩) :: st.sl,st.bx.set i [.loc i 0,.sl 1 (bD l') (some kt)],Zi⟩)
  (hst:X.still=false:=by exact rfl):CallG X 54 [.loc i 0,.v (.string s)] (some d) k st:=by
 have hn:l'.length=l.length + s.size:=by rw [B6,List.length_append,Array.length_toList];all_goals rfl
 subst B6;refine X3 hP hbt lV hp ?_ hs (by omega) hd hk hst;rcases hc with ⟨h1,h2,h3,h4⟩ | ⟨h1,h2,h3,h4⟩
 ·grind
 ·exact .inr ⟨h1,h2,h3,by rw [h4,hn]⟩
theorem Jc {w:World} {g n:Nat} (x:Addr):(w.freeze ⟨g,0,none⟩ n).cell? x=w.cell? x:=by
 unfold World.freeze;split
 ·rfl
 ·simp only [World.cell?,Array.getElem?_modify]
  grind
theorem Ge {w:World} {g n k:Nat} (h:k≠g):(w.freeze ⟨g,0,none⟩ n).heap[k]? = w.heap[k]?:=by
 unfold World.freeze
 grind
theorem Gf {w:World} {g n:Nat}:(w.freeze ⟨g,0,none⟩ n).os=w.os/\(w.freeze ⟨g,0,none⟩ n).tape=w.tape/\(w.freeze ⟨g,0,none⟩ n).output=w.output/\(w.freeze ⟨g,0,none⟩ n).heap.size=w.heap.size:=by
 unfold World.freeze
 grind
def Gg:List (List DV):=[[.v (.int .i32 0),.v (.int .i32 31)],[.v (.int .i32 127),.v (.int .i32 159)]]
def Gh:List (List DV):=[[.v (.int .i32 8232),.v (.int .i32 8233)]]
def qv:List (List DV):=[(1564,1564),(8206,8207),(8234,8238),(8294,8297)].map fun p:Int × Int=>[DV.v (.int .i32 p.1),DV.v (.int .i32 p.2)]
def Bv:List (List DV):=[(173,173),(1536,1541),(1757,1757),(1807,1807),(2274,2274),(6158,6158),(8203,8205),(8288,8292),(8298,8303),(65279,65279),(65529,65531),(69821,69821),(69837,69837),(113824,113827),(119155,119162),(917505,917505),(917536,917631)].map fun p:Int × Int=>[DV.v (.int .i32 p.1),DV.v (.int .i32 p.2)]
def mQ (z:Int):Bool:=((Gg.any (mE z) || qv.any (mE z)) || Bv.any (mE z)) || Gh.any (mE z)
def jE (c:Nat):Nat:=if 48<=c/\c<=57 then c - 48 else if 97<=c/\c<=102 then c - 87 else if 65<=c/\c<=70 then c - 55 else 16
def fk (l:List UInt8):Nat:=l.foldl (fun n c=>n * 16 + jE c.toNat) 0
def lU (l:List UInt8):Bool:=l.all fun c=>decide (jE c.toNat < 16)
def iE (l:List UInt8):Bool:=!l.isEmpty && lU l
def scaP:List UInt8->List UInt8 × Nat
 | []=>([],0)
 | c :: t=>if c.toNat=123/\t.idxOf 125 < t.length/\t.idxOf 125<=6/\iE (t.take (t.idxOf 125))=true then (lY (fk (t.take (t.idxOf 125))),t.idxOf 125 + 2) else ([],0)
def oneE (q:List UInt8):List UInt8 × Nat:=
 match q with
 | []=>([],0)
 | [_]=>([],0)
 | b :: c :: r=>
  if b.toNat≠92 then ([],0) else if c.toNat=34∨c.toNat=92 then ([c],2) else if c.toNat=116 then ([9],2) else if c.toNat=110 then ([10],2) else if c.toNat=114 then ([13],2)
  else if c.toNat=120 then (if 2<=r.length/\iE (r.take 2)=true then ([UInt8.ofNat (fk (r.take 2))],4) else ([],0))
  else if c.toNat=117 then (if (scaP r).1=[] then ([],0) else ((scaP r).1,2 + (scaP r).2)) else ([],0)
theorem Jd (c:Nat):jE c<=16:=by unfold jE;split<;>(try split)<;>(try split)<;>omega
theorem wZ {l:List UInt8} {e:Nat} {c:UInt8} (h:l[e]? = some c):fk (l.take (e + 1))=fk (l.take e) * 16 + jE c.toNat:=by
 rw [fk,List.take_add_one,h,List.foldl_append];rfl
theorem w6 {l:List UInt8} {e:Nat} {c:UInt8} (h:l[e]? = some c):lU (l.take (e + 1))=(lU (l.take e) && decide (jE c.toNat < 16)):=by
 rw [lU,List.take_add_one,h,List.all_append];simp [lU]
theorem Bw {l:List UInt8} {c:UInt8} (h:c∈l) (hd:¬ jE c.toNat < 16):lU l=false:=by
 rw [lU,List.all_eq_false];exact ⟨c,h,by simpa using hd⟩
theorem Gi:∀ l:List UInt8,lU l=true->fk l < 16 ^ l.length:=by
 intro l;rw [<- List.take_of_length_le (zLeR l.length)]
 have:∀ k,k<=l.length->lU (l.take k)=true->fk (l.take k) < 16 ^ k:=by
  intro k
  induction k with
  | zero=>intro _ _;simp [fk]
  | succ k ih=>
   intro hk h;obtain ⟨c,hc⟩:∃ c,l[k]? = some c:=⟨_,gE (by omega)⟩;rw [w6 hc,bh,decide_eq_true_iff] at h
   grind [wZ]
 grind
theorem hexN_6 {l:List UInt8} (h:lU l=true) (hl:l.length<=6):fk l < 16777216:=by
 have:=Gi l h;have:16 ^ l.length<=16 ^ 6:=Nat.pow_le_pow_right (by decide) hl;omega
theorem LS (c:Nat) (hc:c < 256):aR prog 362 [.v (.int .u8 c)] (.v (.int .u32 (jE c:Nat))):=by
 have e1:∀ z:Int,DV.v (Value.int .u32 z) = .v (.int .u32 (jE c:Nat))↔z=(jE c:Nat):=by simp
 unfold jE at e1;unfold jE;refine eG 35 [.tmp 2] func362 rfl ntmps362 rfl fun _ _ _ _=>?_;refine br ?_ ?_<;>intro g
 ·have g:48<=c/\c<=57:=by simp [pickB_and] at g;omega
  refine (e1 _).2 ?_;rw [zIfP g];simp only [IntKind.wrap_u8',IntKind.wrap_u32'];omega
 have g1:¬ (48<=c/\c<=57):=by simp [pickB_and] at g;omega
 refine br ?_ ?_<;>intro g
 ·have g:97<=c/\c<=102:=by simp [pickB_and] at g;omega
  refine (e1 _).2 ?_;rw [af g1,zIfP g];simp only [IntKind.wrap_u8',IntKind.wrap_u32'];omega
 have g2:¬ (97<=c/\c<=102):=by simp [pickB_and] at g;omega
 refine br ?_ ?_<;>intro g
 ·have g:65<=c/\c<=70:=by simp [pickB_and] at g;omega
  refine (e1 _).2 ?_;rw [af g1,af g2,zIfP g];simp only [IntKind.wrap_u8',IntKind.wrap_u32'];omega
 have g3:¬ (65<=c/\c<=70):=by simp [pickB_and] at g;omega
 rw [af g1,af g2,af g3];exact (rfl:_=_)
abbrev U0 (l:List UInt8):DV:=.bo [.v (.int .u32 (if iE l=true then fk l else 0:Nat)),.v (.bool (iE l))]
abbrev acy (s:ByteArray) (n:Int) (e:Nat):St:=⟨[(0,⟨[],.v (.string s)⟩),(4,⟨[],.v (.int .u32 n)⟩),aC 8 s.size,aC 9 e],[],[]⟩
theorem rM (s:ByteArray) (hs:s.size<=6):aR prog 354 [.v (.string s)] (U0 (tx s)):=by
 refine eG 26 [.tmp 2,.tmp 3] func354 rfl ntmps354 rfl fun _ _ _ _=>?_;refine lI (fun j st=>∃ e:Nat,st=acy s (fk ((tx s).take e):Nat) e/\e<=s.size/\lU ((tx s).take e)=true/\j=s.size - e) ⟨0,rfl,by omega,rfl,rfl⟩ (wkM wB) ?_;rintro j st ⟨e,rfl,he,hA,rfl⟩;have GK:=hexN_6 hA (by rw [zLenT,bd];omega);refine br ?_ ?_<;>intro h
 ·have az:e < s.size:=sU h;obtain ⟨c,eH,hb⟩:=bl az
  have GD:(tx s)[e]? = some c:=by
   have:=congrArg List.head? eH
   rwa [List.head?_drop,List.head?_cons] at this
  have jI:aq s (e:Int).toNat=c.toNat:=hb;have fX:=c.toNat_lt;have Oq:=LS c.toNat (by omega);have iP:=Jd c.toNat;have pz:=wZ GD;have hsa:=w6 GD;rw [hA,Bool.true_and] at hsa;refine ⟨⟨by omega,by omega⟩,?_⟩;rw [<- jI] at Oq;refine cP afq Oq ?_;rw [jI];refine br ?_ ?_<;>intro g
  ·have g:¬ jE c.toNat < 16:=by have:=of_decide_eq_true g;omega
   have hF:iE (tx s)=false:=by rw [iE,Bw (mG GD) g,Bool.and_false]
   have e0:U0 (tx s) = .bo [.v (.int .u32 0),.v (.bool false)]:=by rw [U0,hF];all_goals rfl
   exact ⟨_,ax,e0.symm⟩
  ·have g:jE c.toNat < 16:=by have:=of_decide_eq_false g;omega
   rw [decide_eq_true g] at hsa;have hn7:=hexN_6 hsa (by rw [zLenT,bd];omega)
   have hw:IntKind.u32.wrap (IntKind.u32.wrap ((fk ((tx s).take e):Nat) * 16) + (jE c.toNat:Nat))=(fk ((tx s).take (e + 1)):Nat):=by
    rw [IntKind.wrap_u32',IntKind.wrap_u32'];omega
   exact rE ⟨_,by omega,e + 1,rfl,by omega,hsa,rfl⟩ (wkM (wB2 (nxt az (by omega)) hw))
 ·have hge:e=s.size:=by simp at h;omega
  subst hge;rw [List.take_of_length_le (by rw [bd];exact zLeR _)] at hA ⊢;by_cases h0:tx s=[]
  ·have xm:=(qX s).2 h0;subst xm;exact ⟨_,ax,rfl⟩
  ·have hB:iE (tx s)=true:=by grind [iE,tx]
   have hn:¬ s=⟨#[]⟩:=fun h=>h0 ((qX s).1 h);have hX:DV.v (.bool (!decide (s=⟨#[]⟩))) = .v (.bool (iE (tx s))):=by rw [hB,decide_eq_false hn];all_goals rfl
   have hY:DV.v (.int .u32 (fk (tx s):Nat)) = .v (.int .u32 (if iE (tx s)=true then fk (tx s) else 0:Nat)):=by rw [hB];all_goals rfl
   exact ⟨_,(by repeat' (first | exact rfl | exact trivial | exact Or.inr (Or.inl ⟨_,rfl⟩) | exact Or.inr ⟨_,rfl⟩ | exact Or.inl ⟨rfl,rfl⟩ | exact Or.inl rfl | refine Or.inr ⟨_,_,rfl,Nat.zero_le _,rfl,?_⟩ | refine ⟨_,_,rfl,?_,?_⟩ | refine ⟨_,rfl,?_⟩ | exact hX | exact hY | refine Or.inr (Or.inr (Or.inr ⟨_,_,rfl,?_⟩)) | exact Or.inl rfl | refine Or.inr ?_)),rfl⟩
theorem LU (z:Int):aR prog 364 [.v (.int .i32 z)] (.v (.bool (gM z))):=by
 refine eG 17 [.tmp 2] func364 rfl ntmps364 rfl fun _ _ _ _=>?_;refine (dq ?_:);simp only [pickB_and,ak,gM]
theorem X5 {a b m:Nat} (k:Nat) (hk:a=2 ^ k * m) (hb:b < 2 ^ k) (ha:a < 256) (iI:b < 256) (hs:a + b < 256):IntKind.u8.wrap ((BitVec.ofInt IntKind.u8.bits (a:Int) ||| BitVec.ofInt IntKind.u8.bits (b:Int)).toNat:Nat)=((a + b:Nat):Int):=by
 show IntKind.u8.wrap ((BitVec.ofInt 8 (a:Int) ||| BitVec.ofInt 8 (b:Int)).toNat:Nat)=_;have e:∀ x:Nat,x < 256->(BitVec.ofInt 8 (x:Int)).toNat=x:=fun x hx=>by rw [BitVec.toNat_ofInt];omega
 rw [BitVec.toNat_or,e a ha,e b iI,hk,<- Nat.two_pow_add_eq_or_of_lt hb,IntKind.wrap_u8',<- hk];omega
theorem ahA {n:Nat} (hn:n<=1114111):IntKind.i32.wrap ((BitVec.ofInt IntKind.i32.bits (n:Int) &&& BitVec.ofInt IntKind.i32.bits 63).toNat:Nat)=((n % 64:Nat):Int):=by
 show IntKind.i32.wrap ((BitVec.ofInt 32 (n:Int) &&& BitVec.ofInt 32 63).toNat:Nat)=_;rw [BitVec.toNat_and,SE (by omega),show (BitVec.ofInt 32 63).toNat=2 ^ 6 - 1 from rfl,Nat.and_two_pow_sub_one_eq_mod];exact Fm (by omega) (by omega)
theorem oU (n:Nat) (hn:n<=1114111):aR prog 365 [.v (.int .i32 n)] (.v (.int .u8 (128 + n % 64:Nat))):=by
 refine eG 7 [.tmp 2] func365 rfl ntmps365 rfl fun _ _ _ _=>?_;refine (congrArg (fun z=>DV.v (.int .u8 z)) ?_:_=_);have h1:=ahA hn;have h2:IntKind.u8.wrap ((n % 64:Nat):Int)=((n % 64:Nat):Int):=by rw [IntKind.wrap_u8'];omega
 have h3:=X5 (a:=128) (b:=n % 64) (m:=2) 6 rfl (by omega) (by omega) (by omega) (by omega);rw [h1,h2];exact h3
theorem Qv (z:Int):aR prog 363 [.v (.int .i32 z)] (.v (.string (ba (lY z)))):=by
 have hs:=LU z;have hE:lY z=if gM z=true then vQ z.toNat else []:=rfl
 have hB:gM z=(decide (0<=z) && decide (z<=1114111) && (decide (z < 55296) || decide (57343 < z))):=rfl;generalize lY z=E at hE ⊢;generalize gM z=B at hs hE hB;refine eG 53 [.tmp 2] func363 rfl ntmps363 rfl fun _ _ _ _=>?_;refine cP afs hs ?_
 cases B with
 | false=>
  rw [af (by simp)] at hE;subst hE;exact (rfl:_=_)
 | true=>
  rw [zIfP rfl] at hE;have hB:=hB.symm;simp at hB;obtain ⟨n,Q7⟩:∃ n:Nat,z=n:=⟨z.toNat,by omega⟩;have hzt:z.toNat=n:=by omega
  rw [hzt] at hE;have hn:n<=1114111:=by omega
  unfold vQ at hE;refine br ?_ ?_<;>intro c
  ·have c:n < 128:=by have:=of_decide_eq_true c;omega
   rw [zIfP c] at hE;refine ⟨[UInt8.ofNat (n)],?_,?_⟩
   ·rw [Q7];grind [u8L,b8]
   ·rw [hE];exact (rfl:_=_)
  have c1:¬ n < 128:=by have:=of_decide_eq_false c;omega
  rw [af c1] at hE
  have h6:z.fdiv (2 ^ min (Int.toNat 6) IntKind.i32.bits)=((n / 64:Nat):Int):=by
   rw [Q7,Int.fdiv_eq_ediv_of_nonneg _ (by decide)];all_goals rfl
  have h12:z.fdiv (2 ^ min (Int.toNat 12) IntKind.i32.bits)=((n / 4096:Nat):Int):=by
   rw [Q7,Int.fdiv_eq_ediv_of_nonneg _ (by decide)];all_goals rfl
  have h18:z.fdiv (2 ^ min (Int.toNat 18) IntKind.i32.bits)=((n / 262144:Nat):Int):=by
   rw [Q7,Int.fdiv_eq_ediv_of_nonneg _ (by decide)];all_goals rfl
  have w8:∀ k:Nat,k < 256->IntKind.u8.wrap ((k:Nat):Int)=((k:Nat):Int):=fun k hk=>by rw [IntKind.wrap_u8'];omega
  have hf:=oU n hn;rw [<- Q7] at hf;have hf6:=oU (n / 64) (by omega);have ahB:=oU (n / 4096) (by omega);rw [<- h6] at hf6;rw [<- h12] at ahB;have tn:∀ k:Nat,k < 256->(UInt8.ofNat k).toNat=k:=fun k hk=>by rw [UInt8.toNat_ofNat'];omega
  refine br ?_ ?_<;>intro c
  ·have c:n < 2048:=by have:=of_decide_eq_true c;omega
   rw [zIfP c] at hE;refine ⟨by omega,?_⟩;refine cP CR hf ?_;refine ⟨[UInt8.ofNat (192 + n / 64),UInt8.ofNat (128 + n % 64)],?_,?_⟩
   ·have:=X5 (a:=192) (b:=n / 64) (m:=3) 6 rfl (by omega) (by omega) (by omega) (by omega);rw [h6,w8 (n / 64) (by omega)];simp only [u8L,List.map_cons,List.map_nil,tn _ (show 192 + n / 64 < 256 by omega),tn _ (show 128 + n % 64 < 256 by omega),List.flatten_cons,List.flatten_nil,List.append_nil,List.cons_append,List.nil_append];exact congrArg (fun z=>[DV.v (.int .u8 z),.v (.int .u8 ((128 + n % 64:Nat):Int))]) this
   ·rw [hE];exact (rfl:_=_)
  have c2:¬ n < 2048:=by have:=of_decide_eq_false c;omega
  rw [af c2] at hE;refine br ?_ ?_<;>intro c
  ·have c:n < 65536:=by have:=of_decide_eq_true c;omega
   rw [zIfP c] at hE;refine ⟨by omega,?_⟩;refine ⟨by omega,?_⟩;refine cP CR hf6 ?_;refine cP CR hf ?_;refine ⟨[UInt8.ofNat (224 + n / 4096),UInt8.ofNat (128 + n / 64 % 64),UInt8.ofNat (128 + n % 64)],?_,?_⟩
   ·have:=X5 (a:=224) (b:=n / 4096) (m:=7) 5 rfl (by omega) (by omega) (by omega) (by omega);rw [h12,w8 (n / 4096) (by omega)];simp only [u8L,List.map_cons,List.map_nil,tn _ (show 224 + n / 4096 < 256 by omega),tn _ (show 128 + n / 64 % 64 < 256 by omega),tn _ (show 128 + n % 64 < 256 by omega),List.flatten_cons,List.flatten_nil,List.append_nil,List.cons_append,List.nil_append];exact congrArg (fun z=>[DV.v (.int .u8 z),.v (.int .u8 ((128 + n / 64 % 64:Nat):Int)),.v (.int .u8 ((128 + n % 64:Nat):Int))]) this
   ·rw [hE];exact (rfl:_=_)
  have c3:¬ n < 65536:=by have:=of_decide_eq_false c;omega
  rw [af c3] at hE;refine ⟨by omega,?_⟩;refine ⟨by omega,?_⟩;refine cP CR ahB ?_;refine ⟨by omega,?_⟩;refine cP CR hf6 ?_;refine cP CR hf ?_;refine ⟨[UInt8.ofNat (240 + n / 262144),UInt8.ofNat (128 + n / 4096 % 64),UInt8.ofNat (128 + n / 64 % 64),UInt8.ofNat (128 + n % 64)],?_,?_⟩
  ·have:=X5 (a:=240) (b:=n / 262144) (m:=15) 4 rfl (by omega) (by omega) (by omega) (by omega);rw [h18,w8 (n / 262144) (by omega)];simp only [u8L,List.map_cons,List.map_nil,tn _ (show 240 + n / 262144 < 256 by omega),tn _ (show 128 + n / 4096 % 64 < 256 by omega),tn _ (show 128 + n / 64 % 64 < 256 by omega),tn _ (show 128 + n % 64 < 256 by omega),List.flatten_cons,List.flatten_nil,List.append_nil,List.cons_append,List.nil_append];exact congrArg (fun z=>[DV.v (.int .u8 z),.v (.int .u8 ((128 + n / 4096 % 64:Nat):Int)),.v (.int .u8 ((128 + n / 64 % 64:Nat):Int)),.v (.int .u8 ((128 + n % 64:Nat):Int))]) this
  ·rw [hE];exact (rfl:_=_)
theorem Gj:aR prog 348 [] (.sl 2 Gg none):=by
 refine eG 4 [.tmp 0] func348 rfl ntmps348 rfl fun _ _ _ _=>?_;exact ⟨_,ax,rfl⟩
theorem Qw:aR prog 349 [] (.sl 2 qv none):=by
 refine eG 6 [.tmp 0] func349 rfl ntmps349 rfl fun _ _ _ _=>?_;exact ⟨_,ax,rfl⟩
theorem Je:aR prog 350 [] (.sl 2 Bv none):=by
 refine eG 19 [.tmp 0] func350 rfl ntmps350 rfl fun _ _ _ _=>?_;exact ⟨_,ax,rfl⟩
theorem Bz:aR prog 351 [] (.sl 2 Gh none):=by
 refine eG 3 [.tmp 0] func351 rfl ntmps351 rfl fun _ _ _ _=>?_;exact ⟨_,ax,rfl⟩
theorem Jf:aR prog 257 [] (.sl 2 qv none):=by
 refine eG 6 [.tmp 0] func257 rfl ntmps257 rfl fun _ _ _ _=>?_;exact ⟨_,ax,rfl⟩
theorem Ci:aR prog 258 [] (.sl 2 Bv none):=by
 refine eG 19 [.tmp 0] func258 rfl ntmps258 rfl fun _ _ _ _=>?_;exact ⟨_,ax,rfl⟩
theorem uU (es:List (List DV)) (z:Int) (hl:es.length<=1000) (hs:es.all spB=true) (m:Int) (ho:srtB m es=true):aR prog 347 [.sl 2 es none,.v (.int .i32 z)] (.v (.bool (es.any (mE z)))):=
 (WI es z hl hs).mono fun d _ _ ⟨b,h1,h2⟩=>by rw [h1,h2 m ho]
theorem Ew (es:List (List DV)) (z:Int) (hl:es.length<=1000) (hs:es.all spB=true) (h0:0<=z) (h1:z<=1114111):aR prog 256 [.sl 2 es none,.v (.int .i32 z)] (.v (.bool (es.any (mE z)))):=
 (ss es z hl hs).mono fun d _ _ ⟨b,h2,h3⟩=>by rw [h2,h3 h0 h1]
theorem xV (z:Int):aR prog 289 [.v (.int .i32 z)] (.v (.bool (mQ z))):=by
 have hk:Ev prog 331 [.v (.int .i32 z)] [] [] (fun d _ _=>∃ k:Int,d = .v (.int .i64 k)/\(!decide (k=0))=mQ z):=by
  have h1:=uU Gg z (by decide) (by decide) (-1) (by decide);have h2:=uU qv z (by decide) (by decide) (-1) (by decide);have h3:=uU Bv z (by decide) (by decide) (-1) (by decide);have h4:=uU Gh z (by decide) (by decide) (-1) (by decide);have hB:mQ z=(((Gg.any (mE z) || qv.any (mE z)) || Bv.any (mE z)) || Gh.any (mE z)):=rfl;rw [hB];generalize Gg.any (mE z)=b1 at h1;generalize qv.any (mE z)=b2 at h2;generalize Bv.any (mE z)=b3 at h3;generalize Gh.any (mE z)=b4 at h4;generalize hT1:Gg=T1 at h1;generalize hT2:qv=T2 at h2;generalize hT3:Bv=T3 at h3;generalize hT4:Gh=T4 at h4;have c1:=Gj;have c2:=Qw;have c3:=Je;have c4:=Bz;rw [hT1] at c1;rw [hT2] at c2;rw [hT3] at c3;rw [hT4] at c4;refine eG 19 [.tmp 2] func331 rfl ntmps331 rfl fun _ _ _ _=>?_;refine cP afj c1 ?_;refine cP M1 h1 ?_
  cases b1 with
  | true=>exact ⟨_,rfl,rfl⟩
  | false=>
  refine cP afk c2 ?_;refine cP M1 h2 ?_
  cases b2 with
  | true=>exact ⟨_,rfl,rfl⟩
  | false=>
  refine cP afl c3 ?_;refine cP M1 h3 ?_
  cases b3 with
  | true=>exact ⟨_,rfl,rfl⟩
  | false=>
  refine cP afm c4 ?_;refine cP M1 h4 ?_
  cases b4 with
  | true=>exact ⟨_,rfl,rfl⟩
  | false=>exact ⟨_,rfl,rfl⟩
 refine eG 6 [.tmp 2] func289 rfl ntmps289 rfl fun _ _ _ _=>?_;refine bZ afh rfl hk ax (fun q hq=>?_);obtain ⟨k,rfl,hk⟩:=hq;refine (dq ?_:);exact hk
theorem qw (z:Int) (h0:0<=z) (h1:z<=1114111):Ev prog 174 [.v (.int .i32 z)] [] [] (fun d _ _=>∃ k:Int,d = .v (.int .i64 k)/\(!decide (k=0))=mQ z):=by
 have h2:=Ew qv z (by decide) (by decide) h0 h1;have h3:=Ew Bv z (by decide) (by decide) h0 h1;have hB:mQ z=(((Gg.any (mE z) || qv.any (mE z)) || Bv.any (mE z)) || Gh.any (mE z)):=rfl;have e1:Gg.any (mE z)=(decide (0<=z) && decide (z < 32) || decide (126 < z) && decide (z < 160)):=by grind [Gg,mE]
 have e4:Gh.any (mE z)=(decide (z=8232) || decide (z=8233)):=by grind [Gh,mE]
 rw [hB,e1,e4];generalize qv.any (mE z)=b2 at h2;generalize Bv.any (mE z)=b3 at h3;generalize hT2:qv=T2 at h2;generalize hT3:Bv=T3 at h3;have c2:=Jf;have c3:=Ci;rw [hT2] at c2;rw [hT3] at c3;refine eG 29 [.tmp 2] func174 rfl ntmps174 rfl fun _ _ _ _=>?_;refine br ?_ ?_<;>intro c
 ·refine ⟨_,rfl,?_⟩;simp only [pickB_and,ak] at c;rw [c];all_goals rfl
 simp only [pickB_and,ak] at c;rw [c];refine cP aeU c2 ?_;refine cP MY h2 ?_
 cases b2 with
 | true=>exact ⟨_,rfl,rfl⟩
 | false=>
 refine cP aeV c3 ?_;refine cP MY h3 ?_
 cases b3 with
 | true=>exact ⟨_,rfl,rfl⟩
 | false=>
 refine br ?_ ?_<;>intro c
 ·refine ⟨_,rfl,?_⟩;simp only [ak] at c;rw [c];all_goals rfl
 ·refine ⟨_,rfl,?_⟩;simp only [ak] at c;rw [c];all_goals rfl
theorem Jg (l:List UInt8) (c:UInt8):Lib.indexByte l c=if l.idxOf c < l.length then (l.idxOf c:Int) else -1:=by
 induction l with
 | nil=>rfl
 | cons b l ih=>
  unfold Lib.indexByte
  grind
abbrev scaD (p:List UInt8 × Nat):DV:=.bo [.v (.string (ba p.1)),.v (.int .i64 p.2)]
theorem Jh (s:ByteArray) (hs:s.size<=1099511627776):aR prog 355 [.v (.string s)] (scaD (scaP (tx s))):=by
 have hx:=IV s 125;have hi:=Jg (tx s) 125;have e1:(125:Int).toNat.toUInt8=125:=rfl;rw [e1] at hx;generalize Lib.indexByte (tx s) 125=I at hx hi;refine eG 38 [.tmp 2,.tmp 3] func355 rfl ntmps355 rfl fun _ _ _ _=>?_;refine cP Y6 hx ?_;have gf:=bd s
 cases X4:tx s with
 | nil=>
  have xm:=(qX s).2 X4;refine br (fun g=>absurd xm (sU g)) (fun _=>?_);exact ⟨_,ax,rfl⟩
 | cons c t=>
  rw [X4,List.length_cons] at gf;have xm:¬ s=⟨#[]⟩:=fun h=>by rw [(qX s).1 h] at X4;cases X4
  have jI:aq s (0:Int).toNat=c.toNat:=pS (s:=s) X4 (z:=0) 0 rfl;have ZW:¬ (c.toNat=123/\t.idxOf 125 < t.length/\t.idxOf 125<=6/\iE (t.take (t.idxOf 125))=true)->scaP (c :: t)=([],0):=fun h=>by rw [scaP,af h]
  refine br (fun _=>?_) (fun g=>absurd (sU g) xm);refine ⟨⟨by omega,by omega⟩,?_⟩;rw [jI]
  have hcn:c.toNat=123->(c == 125)=false:=fun h=>by
   apply beq_eq_false_iff_ne.2;intro h';rw [h'] at h;cases h
  rw [X4,List.idxOf_cons,List.length_cons] at hi;refine br ?_ ?_<;>intro g
  ·rw [ZW (fun ⟨h1,h2,h3,_⟩=>by
    rw [hcn h1] at hi;simp only [cond_false] at hi;rw [zIfP (by omega)] at hi;simp [ak,h1] at g
    omega)]
   exact ⟨_,ax,rfl⟩
  have g2:c.toNat=123/\0<=I/\I<=7:=by
   simp [ak] at g;omega
  obtain ⟨hc,hI0,hI7⟩:=g2;rw [hcn hc] at hi;simp only [cond_false] at hi
  have hk:t.idxOf 125 < t.length:=by
   rcases Nat.lt_or_ge (t.idxOf 125) t.length with h | h
   ·exact h
   ·rw [af (by omega)] at hi;omega
  rw [zIfP (by omega)] at hi;have hS:scaP (c :: t)=if c.toNat=123/\t.idxOf 125 < t.length/\t.idxOf 125<=6/\iE (t.take (t.idxOf 125))=true then (lY (fk (t.take (t.idxOf 125))),t.idxOf 125 + 2) else ([],0):=rfl
  generalize scaP (c :: t)=S at hS ⊢;generalize t.idxOf 125=k at hi hk ZW hS;have hk6:k<=6:=by omega
  refine ⟨⟨by omega,by omega,by omega⟩,?_⟩
  have jo:tx (s.extract (1:Int).toNat I.toNat)=t.take k:=by
   have e2:I.toNat=k + 1:=by omega
   rw [e2];have:tx (s.extract 1 (k + 1))=((tx s).take (k + 1)).drop 1:=by simp [tx,List.drop_take]
   rw [show (1:Int).toNat=1 from rfl,this,X4];simp
  have jT:=rM (s.extract (1:Int).toNat I.toNat) (by
   have:=congrArg List.length jo;rw [bd,zLenT] at this
   omega)
  rw [jo] at jT;have GK:iE (t.take k)=true->fk (t.take k) < 16777216:=fun h=>hexN_6 (by rw [iE,bh] at h;exact h.2) (by rw [zLenT];omega);have hnD:U0 (t.take k) = .bo [.v (.int .u32 (if iE (t.take k)=true then fk (t.take k) else 0:Nat)),.v (.bool (iE (t.take k)))]:=rfl;rw [hnD] at jT;generalize iE (t.take k)=B at jT GK hS;generalize fk (t.take k)=N at jT GK hS;generalize s.extract (1:Int).toNat I.toNat=X at jT ⊢
  cases B with
  | false=>
   rw [af (fun h=>by simpa using h.2.2.2)] at hS;rw [af (by simp)] at jT;subst hS;refine cP M3 jT ?_;exact ⟨_,ax,rfl⟩
  | true=>
   rw [zIfP ⟨hc,hk,hk6,rfl⟩] at hS;rw [zIfP rfl] at jT;subst hS;have hN:=GK rfl;have hw:IntKind.i32.wrap ((N:Nat):Int)=((N:Nat):Int):=Fm (by omega) (by omega)
   have he:aR prog 363 [.v (.int .i32 (IntKind.i32.wrap ((N:Nat):Int)))] (.v (.string (ba (lY (N:Nat))))):=by
    rw [hw];exact Qv (N:Nat)
   have rk:IntKind.i64.wrap (I + 1)=((k + 2:Nat):Int):=by rw [wrap64 (by omega) (by omega)];omega
   refine cP M3 jT ?_;refine cP afr he ?_;have hX:=congrArg (fun z=>DV.v (.int .i64 z)) rk;exact ⟨_,(by repeat' (first | exact rfl | exact trivial | exact Or.inr (Or.inl ⟨_,rfl⟩) | exact Or.inr ⟨_,rfl⟩ | exact Or.inl ⟨rfl,rfl⟩ | exact Or.inl rfl | refine Or.inr ⟨_,_,rfl,Nat.zero_le _,rfl,?_⟩ | refine ⟨_,_,rfl,?_,?_⟩ | refine ⟨_,rfl,?_⟩ | exact hX | refine Or.inr (Or.inr (Or.inr ⟨_,_,rfl,?_⟩)) | exact Or.inl rfl | refine Or.inr ?_)),rfl⟩
abbrev U1 (p:List UInt8 × Nat):DV:=.bo [.v (.string (ba p.1)),.v (.int .i64 p.2),.v (.bool (decide (p.2≠0)))]
set_option maxHeartbeats 2000000 in
theorem Ji (s:ByteArray) (hs:s.size<=1099511627776) (i:Nat) (hi:i < s.size):aR prog 336 [.v (.string s),.v (.int .i64 i)] (U1 (oneE ((tx s).drop i))):=by
 have gf:=bd s;obtain ⟨b,eH,hb⟩:=bl hi;have eH:(tx s).drop i=b :: (tx s).drop (i + 1):=eH;rw [eH];have s7:IntKind.i64.wrap ((i:Int) + 1)=((i + 1:Nat):Int):=nxt hi (by omega);have rk:IntKind.i64.wrap ((i:Int) + 2)=((i + 2:Nat):Int):=by rw [wrap64 (by omega) (by omega)];omega
 have BV:IntKind.i64.wrap ((s.size:Int) - 2)=(s.size:Int) - 2:=wrap64 (by omega) (by omega);have jI:aq s (i:Int).toNat=b.toNat:=hb;by_cases h2:i + 1 < s.size
 rotate_left
 ·have acA:(tx s).drop (i + 1)=[]:=List.drop_eq_nil_of_le (by omega);rw [acA];refine eG 78 [.tmp 4,.tmp 5,.tmp 6] func336 rfl ntmps336 rfl fun _ _ _ _=>?_;refine br (fun g=>?_) (fun _=>?_)
  ·exfalso;rw [BV] at g;simp [ak] at g;omega
  exact ⟨_,ax,rfl⟩
 obtain ⟨c,BA,hc⟩:=bl h2;have BA:(tx s).drop (i + 1)=c :: (tx s).drop (i + 2):=BA;rw [BA];have GD:aq s (IntKind.i64.wrap ((i:Int) + 1)).toNat=c.toNat:=by rw [s7];exact hc
 have jo:tx (s.extract (IntKind.i64.wrap ((i:Int) + 2)).toNat (s.size:Int).toNat)=(tx s).drop (i + 2):=by rw [rk];exact uA s (i + 2) hs
 have CA:(s.extract (IntKind.i64.wrap ((i:Int) + 2)).toNat (s.size:Int).toNat).size=s.size - (i + 2):=by
  have:=congrArg List.length jo;rw [bd,List.length_drop,gf] at this;exact this
 have nc:=Jh (s.extract (IntKind.i64.wrap ((i:Int) + 2)).toNat (s.size:Int).toNat) (by omega);rw [jo] at nc;generalize (tx s).drop (i + 2)=r at jo nc ⊢;have gW:r.length=s.size - (i + 2):=by rw [<- jo,bd];exact CA
 generalize hRR:s.extract (IntKind.i64.wrap ((i:Int) + 2)).toNat (s.size:Int).toNat=R at jo nc CA
 have hO:oneE (b :: c :: r)=if b.toNat≠92 then ([],0) else if c.toNat=34∨c.toNat=92 then ([c],2) else if c.toNat=116 then ([9],2) else if c.toNat=110 then ([10],2) else if c.toNat=114 then ([13],2)
  else if c.toNat=120 then (if 2<=r.length/\iE (r.take 2)=true then ([UInt8.ofNat (fk (r.take 2))],4) else ([],0))
  else if c.toNat=117 then (if (scaP r).1=[] then ([],0) else ((scaP r).1,2 + (scaP r).2)) else ([],0):=rfl
 generalize oneE (b :: c :: r)=O at hO ⊢;refine eG 78 [.tmp 4,.tmp 5,.tmp 6] func336 rfl ntmps336 rfl fun _ _ _ _=>?_;refine br (fun _=>?_) (fun g=>?_)
 rotate_left
 ·exfalso;rw [BV] at g;simp [ak] at g;omega
 refine ⟨⟨by omega,by omega⟩,?_⟩;rw [jI];refine br ?_ ?_<;>intro g
 ·rw [zIfP (by intro h;simp [ak,h] at g)] at hO;subst hO;exact ⟨_,ax,rfl⟩
 have hb92:b.toNat=92:=by simp [ak] at g;omega
 rw [af (by omega)] at hO;refine ⟨⟨by omega,by rw [rk];omega,by omega⟩,?_⟩;rw [hRR];refine ⟨⟨by rw [s7];omega,by rw [s7];omega⟩,?_⟩;rw [GD];generalize hz:((c.toNat:Nat):Int)=z;clear GD;have n5:∀ (y:Int) (k:Nat),y=(k:Nat)->z=y->c.toNat=k:=fun y k h1 h2=>by omega
 refine br ?_ ?_<;>intro g
 ·refine br (fun _=>?_) (fun g'=>absurd (g.symm.trans g') (by decide));have g:c.toNat=34:=n5 _ 34 rfl (of_decide_eq_true g);rw [zIfP (.inl g)] at hO;subst hO;refine ⟨[c],by rw [<- hz];rfl,?_⟩;exact ⟨_,ax,rfl⟩
 have g1:¬ c.toNat=34:=fun h=>of_decide_eq_false g (by omega);refine br ?_ ?_<;>intro g
 ·have g:c.toNat=92:=n5 _ 92 rfl (of_decide_eq_true g);rw [zIfP (.inr g)] at hO;subst hO;refine ⟨[c],by rw [<- hz];rfl,?_⟩;exact ⟨_,ax,rfl⟩
 have g2:¬ c.toNat=92:=fun h=>of_decide_eq_false g (by omega);rw [af (by omega)] at hO;refine br ?_ ?_<;>intro g
 ·have g:c.toNat=116:=n5 _ 116 rfl (of_decide_eq_true g);rw [zIfP g] at hO;subst hO;exact ⟨_,ax,rfl⟩
 have g3:¬ c.toNat=116:=fun h=>of_decide_eq_false g (by omega);rw [af g3] at hO;refine br ?_ ?_<;>intro g
 ·have g:c.toNat=110:=n5 _ 110 rfl (of_decide_eq_true g);rw [zIfP g] at hO;subst hO;exact ⟨_,ax,rfl⟩
 have g4:¬ c.toNat=110:=fun h=>of_decide_eq_false g (by omega);rw [af g4] at hO;refine br ?_ ?_<;>intro g
 ·have g:c.toNat=114:=n5 _ 114 rfl (of_decide_eq_true g);rw [zIfP g] at hO;subst hO;exact ⟨_,ax,rfl⟩
 have g5:¬ c.toNat=114:=fun h=>of_decide_eq_false g (by omega);rw [af g5] at hO;refine br ?_ ?_<;>intro g
 ·have g:c.toNat=120:=n5 _ 120 rfl (of_decide_eq_true g);rw [zIfP g] at hO;refine br ?_ ?_<;>intro g
  ·have g:R.size < 2:=by have:=of_decide_eq_true g;omega
   rw [af (by rw [<- jo,bd];omega)] at hO;subst hO;exact ⟨_,ax,rfl⟩
  have g:¬ R.size < 2:=by have:=of_decide_eq_false g;omega
  refine ⟨⟨by omega,by omega,by omega⟩,?_⟩;have hRl:r.length=R.size:=by rw [<- jo,bd]
  have ZX:tx (R.extract (0:Int).toNat (2:Int).toNat)=r.take 2:=by rw [<- jo];exact Fo R 2
  have jT:=rM (R.extract (0:Int).toNat (2:Int).toNat) (by
   have:=congrArg List.length ZX;rw [bd,zLenT] at this
   omega)
  rw [ZX] at jT
  have GK:iE (r.take 2)=true->fk (r.take 2) < 256:=fun h=>by
   have:=Gi (r.take 2) (by rw [iE,bh] at h;exact h.2);have e:(r.take 2).length=2:=by rw [zLenT];omega
   rw [e] at this;exact this
  have hnD:U0 (r.take 2) = .bo [.v (.int .u32 (if iE (r.take 2)=true then fk (r.take 2) else 0:Nat)),.v (.bool (iE (r.take 2)))]:=rfl;rw [hnD] at jT;have ki:2<=r.length:=by omega
  generalize iE (r.take 2)=B at jT GK hO;generalize fk (r.take 2)=N at jT GK hO;generalize R.extract (0:Int).toNat (2:Int).toNat=X at jT
  cases B with
  | false=>
   rw [af (fun h=>by simpa using h.2)] at hO;rw [af (by simp)] at jT;subst hO;refine cP M3 jT ?_;exact ⟨_,ax,rfl⟩
  | true=>
   rw [zIfP ⟨ki,rfl⟩] at hO;rw [zIfP rfl] at jT;subst hO;have hN:=GK rfl;refine cP M3 jT ?_;refine ⟨[UInt8.ofNat N],?_,?_⟩
   ·have e1:IntKind.u8.wrap ((N:Nat):Int)=((UInt8.ofNat N).toNat:Int):=b8 rfl hN;exact congrArg (fun z=>[DV.v (.int .u8 z)]) e1
   exact ⟨_,ax,rfl⟩
 have g6:¬ c.toNat=120:=fun h=>of_decide_eq_false g (by omega);rw [af g6] at hO;refine br ?_ ?_<;>intro g
 ·have g:c.toNat=117:=n5 _ 117 rfl (of_decide_eq_true g);rw [zIfP g] at hO;have fX:r.length<=1099511627776:=by omega
  have qJ:(scaP r).2<=r.length + 2:=by
   unfold scaP;split
   ·simp
   ·split
    ·rename_i h;simp only [List.length_cons];omega
    ·simp
  generalize scaP r=S at hO nc qJ;obtain ⟨S1,S2⟩:=S;refine cP afp nc ?_;refine br ?_ ?_<;>intro g
  ·have g:S1=[]:=by
    have:=of_decide_eq_true g;have:=congrArg tx this
    rwa [C8] at this
   rw [zIfP g] at hO;subst hO;exact ⟨_,ax,rfl⟩
  ·have g:¬ S1=[]:=fun h=>of_decide_eq_false g (by rw [h]);rw [af g] at hO;subst hO
   have hw:IntKind.i64.wrap (2 + ((S2:Nat):Int))=((2 + S2:Nat):Int):=by
    simp only at qJ;rw [wrap64 (by omega) (by omega)];omega
   have hX:=congrArg (fun z=>DV.v (.int .i64 z)) hw;have hY:DV.v (.bool true) = .v (.bool (decide (2 + S2≠0))):=by rw [decide_eq_true (show 2 + S2≠0 by omega)]
   exact ⟨_,(by repeat' (first | exact rfl | exact trivial | exact Or.inr (Or.inl ⟨_,rfl⟩) | exact Or.inr ⟨_,rfl⟩ | exact Or.inl ⟨rfl,rfl⟩ | exact Or.inl rfl | refine Or.inr ⟨_,_,rfl,Nat.zero_le _,rfl,?_⟩ | refine ⟨_,_,rfl,?_,?_⟩ | refine ⟨_,rfl,?_⟩ | exact hX | exact hY | refine Or.inr (Or.inr (Or.inr ⟨_,_,rfl,?_⟩)) | exact Or.inl rfl | refine Or.inr ?_)),rfl⟩
 have g7:¬ c.toNat=117:=fun h=>of_decide_eq_false g (by omega);rw [af g7] at hO;subst hO;exact ⟨_,ax,rfl⟩
abbrev U2 (q:List UInt8):DV:=if okU q=false then .bo [.v (.int .i64 0),.v (.int .i64 2)] else if mQ (recV (q.take (gp q)))=true then .bo [.v (.int .i64 0),.v (.int .i64 3)] else .bo [.v (.int .i64 (gp q:Nat)),.v (.int .i64 0)]
theorem BC (s:ByteArray) (hs:s.size<=1099511627776) (i:Nat) (c:UInt8) (r:List UInt8) (h:(tx s).drop i=c :: r):aR prog 337 [.v (.string s),.v (.int .i64 i)] (U2 (c :: r)):=by
 have hu:=vP s i hs c r h;have hP:U2 (c :: r)=if okU (c :: r)=false then .bo [.v (.int .i64 0),.v (.int .i64 2)] else if mQ (recV ((c :: r).take (gp (c :: r))))=true then .bo [.v (.int .i64 0),.v (.int .i64 3)] else .bo [.v (.int .i64 (gp (c :: r):Nat)),.v (.int .i64 0)]:=rfl
 have sc:gp (c :: r)=if okU (c :: r)=true then a7 c.toNat else 1:=rfl
 rw [sc] at hP;generalize U2 (c :: r)=P at hP ⊢;generalize okU (c :: r)=ok at hu hP;refine eG 23 [.tmp 4,.tmp 5] func337 rfl ntmps337 rfl fun _ _ _ _=>?_;refine bZ Sa rfl hu ax (fun q hq=>?_);obtain ⟨z,n,rfl,hn,hp⟩:=hq
 cases ok with
 | false=>
  rw [zIfP rfl] at hP;subst hP;exact ⟨_,ax,rfl⟩
 | true=>
  obtain ⟨rfl,rfl⟩:=hn rfl;rw [af (by simp),zIfP rfl] at hP;have sc:=xV (recV ((c :: r).take (a7 c.toNat)));generalize recV ((c :: r).take (a7 c.toNat))=Z at hP sc;generalize a7 c.toNat=N at hP;generalize mQ Z=B at sc hP;refine cP Y0 sc ?_
  cases B with
  | true=>
   rw [zIfP rfl] at hP;subst hP;exact ⟨_,ax,rfl⟩
  | false=>
   rw [af (by simp)] at hP;subst hP;exact ⟨_,ax,rfl⟩
theorem X6 (b:Nat) (p:Value) (w:World) (Qu:w.heap[b]? = some (.cells #[p,.slice none 0 0] 113 (0,0))) :
  Calls prog 60 #[.pointer (some ⟨b,0,none⟩)] w fun e w'=>e = .returned (.string ⟨#[]⟩)/\w'=w.drew:=by
 have c1:w.drew.cell? ⟨b,1,none⟩=some (.slice none 0 0):=by
  have:w.drew.heap[b]? = some (.cells #[p,.slice none 0 0] 113 (0,0)):=Qu;rw [Lib.cell_of_heap this];all_goals rfl
 have hSD:(Builtin.unsafeSliceData_ #[111] 199 #[.slice none 0 0]).run prog w.drew = .ok (.pointer none) w.drew:=
  Lib.run_unsafeSliceData_nil _ _ _ _ _
 have hUS:(Builtin.unsafeString_ #[199,3] 9 #[.pointer none,.int .i64 0]).run prog w.drew = .ok (.string ⟨#[]⟩) w.drew:=
  Lib.run_unsafeString_none w.drew 199 3 9 none
 have mixed:=mo
 go_enter func60,ntmps60
 go_wp2
 go_region_o
 all_goals (go_wp2;go_ret;exact ⟨rfl,rfl⟩)
end Go.Proofs.YtfdedoiiahbnnaaGreat
set_option maxRecDepth 100000
namespace Go.Proofs.YtfdedoiiahbnnaaGreat
open Go Go.RowKit Go.Lib Dv Go.Proofs.Tryz
theorem LV {X:Ctx} {E:En} {st:St} {a:Act} {w:World} (h:Rel X E st a w) (hst:X.still=false) {g n:Nat} (hb:g ∉ E.β) (ht:∀ y∈E.τ,y.ownBlock≠some g) (GW:X.w0.heap.size<=g∨X.E0.S g):Rel X E st a (w.drew.freeze ⟨g,0,none⟩ n):=by
 obtain ⟨k1,k2,k3,k4⟩:=Gf (w:=w.drew) (g:=g) (n:=n);have hh:∀ j,j≠g->(w.drew.freeze ⟨g,0,none⟩ n).heap[j]? = w.heap[j]?:=fun j hj=>Ge hj
 exact {
  env:={
   len:=h.env.len
   tl:=h.env.tl
   eQ:=fun i cs hi=>by
    obtain ⟨b,ty,arr,h1,h2,h3⟩:=h.env.eQ i cs hi;exact ⟨b,ty,arr,h1,by rw [hh b (fun e=>hb (e ▸ mG h1))];exact h2,h3⟩
   inj:=h.env.inj
   sub:=fun x v hx=>by rw [Jc];exact h.env.sub x v hx
   pc:=h.env.pc
   dh:=fun k q y hq hy=>by
    rcases h.env.dh k q y hq hy with h1 | ⟨g',cap,cur,rfl,h1,h2,h3,h4,h5,h6⟩
    ·exact .inl h1
    ·refine .inr ⟨g',cap,cur,rfl,?_,h2,h3,h4,h5,h6⟩;rw [hh g' (fun e=>ht _ (mG hy) (by rw [e];rfl))];exact h1
   jY:=h.env.jY }
  tk:=h.tk
  sz:=h.sz
  tm:=h.tm
  df:=h.df
  nw:=h.nw
  fr:=h.fr.cy k1 k2 k3 (by rw [k4];exact zLeR _) fun j hj=>by
   by_cases hjg:j=g
   ·left;subst hjg;rcases GW with h0 | h0
    ·exact .inr h0
    ·exact .inl h0
   ·right;exact hh j hjg
  sh:=pj hst
  bt:=fun p hp b JJ=>by
   obtain ⟨cs,cx⟩:=h.bt p hp b JJ
   exact ⟨cs,by rw [hh b (fun e=>hb (e ▸ mG JJ))];exact cx⟩ }
theorem U3 {X:Ctx} {st:St} {k:List It} (st':St) (hP:X.P=prog) {i kt d:Nat} {p:DV} {l:List UInt8} (hbt:(i,113)∈X.bt) (lV:st.bx[i]? = some [p,.sl 1 (bD l) (some kt)])
  (hl:l ≠ []) (jt:st.tk[kt]? = some ⟨l.length,5,1,none⟩) (tj:X.n0<=i) (oZ:X.m0<=kt) (tE:st'.tk=st.tk.take kt) (hwb:WeLL i kt (st.tk.take kt) (st.bx.take i) st'.bx) (VB:nf i kt (st.tk.take kt) st.sl st'.sl)
  (hd:fU X.nt st'.sl (some d)=true)
  (hk:go X 4000 k ⟨(d,⟨[],.v (.string ⟨l.toArray⟩)⟩) :: st'.sl,st'.bx,st'.tk⟩) (hst:X.still=false:=by exact rfl):CallG X 60 [.loc i 0] (some d) k st:=by
 refine ⟨?_,hst,fun E a w vs h hv=>?_⟩
 ·rw [hP];exact aee
 rw [hP];simp only [RvL] at hv;obtain ⟨v1,vr,rfl,h1,rfl⟩:=hv;unfold Rv at h1;obtain ⟨b,hb,rfl⟩:=h1;obtain ⟨b',ty,arr,fj,hw,sY⟩:=h.env.eQ i _ lV;rw [hb] at fj;simp only [oI] at fj;subst fj;obtain ⟨Yw,Bu⟩:=h.bt _ hbt b hb;rw [hw] at Bu;simp only [oI,Obj.cells.injEq] at Bu;have hty:ty=113:=Bu.2.1;subst hty;obtain ⟨hr,ho⟩:=sY;simp only [RvL] at hr;obtain ⟨pv,r1,rfl,hpv,cv,r2,rfl,VJ,rfl⟩:=hr;obtain ⟨g,cap,cur,rfl,hg,Cq,hcm,cx,htake,hgb,hτ⟩:=UY h hl jt VJ;refine (acw b g cap pv l cur w hl hw hg Cq hcm cx htake).mono ?_;rintro e w' ⟨rfl,rfl⟩;have OY:=(gS lV).1;have BO:=(gS jt).1;have e1:(st.bx.take i).length=i:=by rw [zLenT];omega
 have e2:(st.tk.take kt).length=kt:=by rw [zLenT];omega
 have hr:=vA (st':=st') h (kept:=st.tk.take kt) (dropped:=st.tk.drop kt) (new:=[]) (b0:=st.bx.take i) (r:=st.bx.drop i) ⟨by omega,by omega,by simp,by simpa using tE,by simp,by simp,by rw [e1,e2,tE];exact hwb,by rw [e1,e2,tE];exact VB⟩;rw [e1] at hr;have GW:X.w0.heap.size<=g:=h.nw.tn kt _ g (by rw [X.oZ];exact oZ) hτ rfl
 have hf:=LV (g:=g) (n:=l.length) hr hst (fun hm=>hgb (List.mem_of_mem_take hm)) (fun y hy=>by
  simp only [En.wk,List.length_nil,List.replicate_zero,List.append_nil] at hy;obtain ⟨j,hj⟩:=List.mem_iff_getElem?.1 hy;rw [cJ] at hj;split at hj
  ·rename_i az;exact fun hc=>h.env.jY j kt y _ g (by omega) hj hτ hc rfl
  ·cases hj) (.inl GW)
 exact go_sound 4000 _ _ hk _ _ _ (bu hf hd (.v (.string ⟨l.toArray⟩)) _ (by unfold Rv;exact ⟨rfl,rfl⟩))
theorem Qx {X:Ctx} {st:St} {k:List It} (hP:X.P=prog) {i d:Nat} {p:DV} (hbt:(i,113)∈X.bt) (lV:st.bx[i]? = some [p,.v (.slice none 0 0)])
  (hd:fU X.nt st.sl (some d)=true)
  (hk:go X 4000 k ⟨(d,⟨[],.v (.string ⟨#[]⟩)⟩) :: st.sl,st.bx,st.tk⟩) (hst:X.still=false:=by exact rfl):CallG X 60 [.loc i 0] (some d) k st:=by
 refine ⟨?_,hst,fun E a w vs h hv=>?_⟩
 ·rw [hP];exact aee
 rw [hP];simp only [RvL] at hv;obtain ⟨v1,vr,rfl,h1,rfl⟩:=hv;unfold Rv at h1;obtain ⟨b,hb,rfl⟩:=h1;obtain ⟨b',ty,arr,fj,hw,sY⟩:=h.env.eQ i _ lV;rw [hb] at fj;simp only [oI] at fj;subst fj;obtain ⟨Yw,Bu⟩:=h.bt _ hbt b hb;rw [hw] at Bu;simp only [oI,Obj.cells.injEq] at Bu;have hty:ty=113:=Bu.2.1;subst hty;obtain ⟨hr,ho⟩:=sY;simp only [RvL] at hr;obtain ⟨pv,r1,rfl,hpv,cv,r2,rfl,VJ,rfl⟩:=hr;unfold Rv at VJ;obtain ⟨rfl,_⟩:=VJ;refine (X6 b pv w hw).mono ?_;rintro e w' ⟨rfl,rfl⟩;have cg:Rel X E st a w.drew:=dF h (Ext.refl E) (h.env.iU fun j _=>rfl) h.tk h.nw (h.fr.cy rfl rfl rfl (zLeR _) fun j hj=>Or.inr rfl) (pj hst) (h.bt.iU fun b hb=>rfl);exact go_sound 4000 _ _ hk _ _ _ (bu cg hd (.v (.string ⟨#[]⟩)) _ (by unfold Rv;exact ⟨rfl,rfl⟩))
end Go.Proofs.YtfdedoiiahbnnaaGreat
set_option maxRecDepth 100000
namespace Go.Proofs.YtfdedoiiahbnnaaGreat
open Go Go.RowKit Dv Go.Proofs.Tryz
def unqU:Nat->List UInt8->Nat->List UInt8->List UInt8 × Nat × Ft
 | 0,_,a,_=>([],0,(5,(a:Int)))
 | _ + 1,[],a,_=>([],0,(5,(a:Int)))
 | k + 1,c :: r,a,out=>
  if c.toNat=34 then (out,a + 1,(0,0))
  else if c.toNat=92 then (if (oneE (c :: r)).2=0 then ([],0,(16,(a:Int))) else unqU k ((c :: r).drop (oneE (c :: r)).2) (a + (oneE (c :: r)).2) (out ++ (oneE (c :: r)).1))
  else if okU (c :: r)=false then ([],0,(2,(a:Int))) else if mQ (recV ((c :: r).take (gp (c :: r))))=true then ([],0,(3,(a:Int)))
  else unqU k ((c :: r).drop (gp (c :: r))) (a + gp (c :: r)) (out ++ (c :: r).take (gp (c :: r)))
def ke (q:List UInt8) (i:Nat):List UInt8 × Nat × Ft:=unqU (q.drop (i + 1)).length (q.drop (i + 1)) (i + 1) []
theorem Jj (n:Nat):1<=(vQ n).length/\(vQ n).length<=4:=by grind [vQ]
theorem U4 (z:Int):(lY z).length<=4:=by grind [Jj,lY]
theorem re (q:List UInt8) (h:(oneE q).2≠0):2<=(oneE q).2/\(oneE q).2<=q.length/\(oneE q).1 ≠ []/\(oneE q).1.length<=(oneE q).2:=by
 match q,h with
 | [],h=>exact absurd rfl h
 | [_],h=>exact absurd rfl h
 | b :: c :: r,h=>
  unfold oneE at h ⊢;simp only at h ⊢;by_cases h0:b.toNat≠92
  ·rw [zIfP h0] at h;exact absurd rfl h
  rw [af h0] at h ⊢;by_cases h1:c.toNat=34∨c.toNat=92
  ·rw [zIfP h1];simp
  rw [af h1] at h ⊢;by_cases h2:c.toNat=116
  ·rw [zIfP h2];simp
  rw [af h2] at h ⊢;by_cases h3:c.toNat=110
  ·rw [zIfP h3];simp
  rw [af h3] at h ⊢;by_cases h4:c.toNat=114
  ·rw [zIfP h4];simp
  rw [af h4] at h ⊢;by_cases h5:c.toNat=120
  ·grind
  rw [af h5] at h ⊢;by_cases h6:c.toNat=117
  ·rw [zIfP h6] at h ⊢;by_cases h7:(scaP r).1=[]
   ·rw [zIfP h7] at h;exact absurd rfl h
   ·rw [af h7] at h ⊢
    have key:(scaP r).1.length<=2 + (scaP r).2/\(scaP r).2<=r.length:=by
     unfold scaP at h7 ⊢
     grind [U4,fk,iE]
    grind
  ·rw [af h6] at h;exact absurd rfl h
theorem rf:∀ (n:Nat) (l:List UInt8) (a:Nat) (out:List UInt8),l.length<=n->unqU n l a out=unqU l.length l a out
 | 0,l,a,out,h=>by grind
 | n + 1,[],a,out,h=>rfl
 | n + 1,c :: r,a,out,h=>by
  have ih:=rf n;rw [List.length_cons] at h;have hu:=gJ (l:=c :: r) (by simp);have ho:=re (c :: r);rw [List.length_cons] at hu ho ⊢;have ih2:=rf r.length
  grind [unqU]
termination_by n=>n
abbrev Jk (l:List UInt8) (a:Nat) (out:List UInt8):=unqU l.length l a out
theorem xa (c:UInt8) (r:List UInt8) (a:Nat) (out:List UInt8):Jk (c :: r) a out =
  if c.toNat=34 then (out,a + 1,(0,0))
  else if c.toNat=92 then (if (oneE (c :: r)).2=0 then ([],0,(16,(a:Int))) else Jk ((c :: r).drop (oneE (c :: r)).2) (a + (oneE (c :: r)).2) (out ++ (oneE (c :: r)).1))
  else if okU (c :: r)=false then ([],0,(2,(a:Int))) else if mQ (recV ((c :: r).take (gp (c :: r))))=true then ([],0,(3,(a:Int)))
  else Jk ((c :: r).drop (gp (c :: r))) (a + gp (c :: r)) (out ++ (c :: r).take (gp (c :: r))):=by
 have hu:=gJ (l:=c :: r) (by simp);have ho:=re (c :: r);rw [List.length_cons] at hu ho;show unqU (r.length + 1) (c :: r) a out=_;rw [unqU];split
 ·rfl
 split
 ·grind [rf]
 split
 ·rfl
 split
 ·rfl
 ·grind [rf]
theorem BD (a:Nat) (out:List UInt8):Jk [] a out=([],0,(5,(a:Int))):=rfl
abbrev ahC (p:List UInt8 × Nat × Ft):DV:=.bo [.v (.string (ba p.1)),.v (.int .i64 p.2.1),Ft.d p.2.2]
abbrev ZY (s:ByteArray) (e:Nat):St:=⟨[(0,⟨[],.v (.string s)⟩),aC 1 e,aJ 6 0,aJ 7 1],[JN,[.v (.pointer none),.v (.slice none 0 0)]],[]⟩
abbrev ahD (s:ByteArray) (e:Nat) (l:List UInt8):St:=⟨[(0,⟨[],.v (.string s)⟩),aC 1 e,aJ 6 0,aJ 7 1],[JN,[.loc 1 0,.sl 1 (bD l) (some 0)]],[⟨l.length,5,1,none⟩]⟩
set_option maxHeartbeats 2000000 in
theorem Gk (s:ByteArray) (hs:s.size<=1099511627776) (i:Nat) (hi:i < s.size) (hq:aq s i=34):aR prog 292 [.v (.string s),.v (.int .i64 i)] (ahC (ke (tx s) i)):=by
 have gf:=bd s;have hR:ke (tx s) i=Jk ((tx s).drop (i + 1)) (i + 1) []:=rfl;generalize ke (tx s) i=R at hR ⊢;have s7:IntKind.i64.wrap ((i:Int) + 1)=((i + 1:Nat):Int):=nxt hi (by omega);refine MH (s:=false) (bt:=[(1,113)]) (hbt:=fun p hp=>Nat.zero_le _) (P:=prog) tt xq 5000 94 [.tmp 4,.tmp 5,.cell 6 26] func292 rfl ntmps292 rfl (nL rfl) (fun _ _ _ _=>?_);refine br (fun g=>?_) (fun _=>?_)
 ·exfalso;simp [ak] at g;omega
 refine br (fun g=>?_) (fun _=>?_)
 ·exfalso;have:=of_decide_eq_true g;omega
 refine ⟨⟨by omega,by omega⟩,?_⟩;refine br (fun g=>?_) (fun _=>?_)
 ·grind
 refine aY (fun j st=>∃ (e:Nat) (l:List UInt8),((l=[]/\st=ZY s e)∨(l ≠ []/\st=ahD s e l))/\R=Jk ((tx s).drop e) e l/\e<=s.size/\l.length<=e/\j=s.size - e) (s.size - (i + 1)) (ZY s (i + 1)) (wkM (wB1 s7)) ⟨i + 1,[],.inl ⟨rfl,rfl⟩,hR,by omega,by simp,by omega⟩ ?_;rintro _ st ⟨e,l,ahE,eM,he,fO,rfl⟩;rcases ahE with ⟨Hk,rfl⟩ | ⟨jr,rfl⟩
 ·refine br ?_ ?_<;>intro hL
  rotate_left
  ·have hge:e=s.size:=by have:=of_decide_eq_false hL;omega
   rw [List.drop_eq_nil_of_le (by omega),BD] at eM;subst eM;exact ⟨_,ax,rfl⟩
  have az:e < s.size:=by have:=of_decide_eq_true hL;omega
  obtain ⟨c,eH,hb⟩:=bl az;have eH:(tx s).drop e=c :: (tx s).drop (e + 1):=eH;have jW:=Ji s hs e az;have jZ:=BC s hs e c _ eH;have sc:=gJ (l:=(tx s).drop e) (by rw [eH];simp);have LW:=re ((tx s).drop e);rw [List.length_drop,gf] at sc LW;have Ex:(tx s).drop (e + gp ((tx s).drop e))=((tx s).drop e).drop (gp ((tx s).drop e)):=by rw [List.drop_drop]
  have rT:(tx s).drop (e + (oneE ((tx s).drop e)).2)=((tx s).drop e).drop (oneE ((tx s).drop e)).2:=by rw [List.drop_drop]
  have U5:tx (s.extract e (e + gp ((tx s).drop e)))=((tx s).drop e).take (gp ((tx s).drop e)):=by
   simp [tx,List.drop_take]
  rw [eH,xa] at eM;rw [eH] at jW sc LW Ex rT U5;have hun2:gp (c :: (tx s).drop (e + 1))=gp (c :: (tx s).drop (e + 1)):=rfl;have hP:U2 (c :: (tx s).drop (e + 1))=if okU (c :: (tx s).drop (e + 1))=false then .bo [.v (.int .i64 0),.v (.int .i64 2)] else if mQ (recV ((c :: (tx s).drop (e + 1)).take (gp (c :: (tx s).drop (e + 1)))))=true then .bo [.v (.int .i64 0),.v (.int .i64 3)] else .bo [.v (.int .i64 (gp (c :: (tx s).drop (e + 1)):Nat)),.v (.int .i64 0)]:=rfl
  rw [hP] at jZ;generalize (tx s).drop (e + 1)=r at *;generalize okU (c :: r)=ok at jZ eM;generalize mQ (recV ((c :: r).take (gp (c :: r))))=bz at jZ eM;generalize gp (c :: r)=N at *;generalize oneE (c :: r)=O at *;obtain ⟨W,n⟩:=O;simp only at LW rT eM;generalize hz:((c.toNat:Nat):Int)=z at *;have jI:((aq s (e:Int).toNat:Nat):Int)=z:=by rw [dV,hb,hz]
  refine ⟨⟨by omega,by omega⟩,?_⟩;rw [jI];refine br ?_ ?_<;>intro g
  ·have g:c.toNat=34:=by have:=of_decide_eq_true g;omega
   rw [zIfP g] at eM;subst eM Hk;have hw:=congrArg (fun z=>DV.v (.int .i64 z)) (nxt az (by omega));refine Qx rfl (.head _) rfl rfl ?_;exact ⟨_,(by repeat' (first | exact rfl | exact trivial | exact Or.inr (Or.inl ⟨_,rfl⟩) | exact Or.inr ⟨_,rfl⟩ | exact Or.inl ⟨rfl,rfl⟩ | exact Or.inl rfl | refine Or.inr ⟨_,_,rfl,Nat.zero_le _,rfl,?_⟩ | refine ⟨_,_,rfl,?_,?_⟩ | refine ⟨_,rfl,?_⟩ | exact hw | refine Or.inr (Or.inr (Or.inr ⟨_,_,rfl,?_⟩)) | exact Or.inl rfl | refine Or.inr ?_)),rfl⟩
  have g34:¬ c.toNat=34:=fun h=>of_decide_eq_false g (by omega);rw [af g34] at eM;refine ⟨⟨by omega,by omega⟩,?_⟩;rw [jI];refine br ?_ ?_<;>intro g
  ·have g:c.toNat=92:=by have:=of_decide_eq_true g;omega
   rw [zIfP g] at eM;by_cases hn:n=0
   ·subst hn;rw [zIfP rfl] at eM;subst eM;have jW:aR prog 336 [.v (.string s),.v (.int .i64 e)] (.bo [.v (.string (ba W)),.v (.int .i64 0),.v (.bool false)]):=jW;refine cP M0 jW ?_;exact ⟨_,ax,rfl⟩
   ·rw [af hn,<- rT] at eM;obtain ⟨p1,p2,p3,p4⟩:=LW hn;have jW:aR prog 336 [.v (.string s),.v (.int .i64 e)] (.bo [.v (.string (ba W)),.v (.int .i64 n),.v (.bool true)]):=by grind
    have hW:0 < (ba W).size:=by rw [Ng];exact List.length_pos_iff.2 p3
    have hw:IntKind.i64.wrap ((e:Int) + (n:Nat))=((e + n:Nat):Int):=by rw [wrap64 (by omega) (by omega)];omega
    have hlen:(l ++ W).length<=140737488355328:=by rw [List.length_append];omega
    have bF:l ++ W ≠ []:=by simp [p3]
    have Gl:(l ++ W).length<=e + n:=by rw [List.length_append];omega
    refine cP M0 jW ?_;refine uT rfl (l ++ W) (l:=l) (kt:=0) (by simp) (.head _) rfl (.inl rfl) (.inl ⟨rfl,Hk,rfl,rfl⟩) hW hlen rfl ?_;exact rE ⟨_,by omega,e + n,l ++ W,.inr ⟨bF,rfl⟩,eM,by omega,Gl,rfl⟩ (wkM (wB1 hw))
  have g92:¬ c.toNat=92:=fun h=>of_decide_eq_false g (by omega);rw [af g92] at eM
  cases ok with
  | false=>
   rw [zIfP rfl] at eM jZ;subst eM;refine cP CP jZ ?_;exact ⟨_,ax,rfl⟩
  | true=>
   rw [af (by simp)] at eM jZ
   cases bz with
   | true=>
    rw [zIfP rfl] at eM jZ;subst eM;refine cP CP jZ ?_;exact ⟨_,ax,rfl⟩
   | false=>
    rw [af (by simp)] at eM jZ;rw [<- Ex] at eM;have hw:IntKind.i64.wrap ((e:Int) + (N:Nat))=((e + N:Nat):Int):=by rw [wrap64 (by omega) (by omega)];omega
    have VE:(IntKind.i64.wrap ((e:Int) + (N:Nat))).toNat=e + N:=by omega
    have fX:((c :: r).take N).length=N:=by grind
    generalize (c :: r).take N=W at *;have hext:s.extract e (e + N)=ba W:=pP U5;have hW:0 < (ba W).size:=by rw [Ng];omega
    have hWn:W ≠ []:=fun h=>by rw [h] at fX;simp at fX;omega
    have hlen:(l ++ W).length<=140737488355328:=by rw [List.length_append];omega
    have bF:l ++ W ≠ []:=by simp [hWn]
    have Gl:(l ++ W).length<=e + N:=by rw [List.length_append];omega
    refine cP CP jZ ?_;refine ⟨⟨by omega,by omega,by omega⟩,?_⟩;rw [VE,dV,hext];refine uT rfl (l ++ W) (l:=l) (kt:=0) (by simp) (.head _) rfl (.inl rfl) (.inl ⟨rfl,Hk,rfl,rfl⟩) hW hlen rfl ?_;exact rE ⟨_,by omega,e + N,l ++ W,.inr ⟨bF,rfl⟩,eM,by omega,Gl,rfl⟩ (wkM (wB1 hw))
 ·refine br ?_ ?_<;>intro hL
  rotate_left
  ·have hge:e=s.size:=by have:=of_decide_eq_false hL;omega
   rw [List.drop_eq_nil_of_le (by omega),BD] at eM;subst eM;exact ⟨_,ax,rfl⟩
  have az:e < s.size:=by have:=of_decide_eq_true hL;omega
  obtain ⟨c,eH,hb⟩:=bl az;have eH:(tx s).drop e=c :: (tx s).drop (e + 1):=eH;have jW:=Ji s hs e az;have jZ:=BC s hs e c _ eH;have sc:=gJ (l:=(tx s).drop e) (by rw [eH];simp);have LW:=re ((tx s).drop e);rw [List.length_drop,gf] at sc LW;have Ex:(tx s).drop (e + gp ((tx s).drop e))=((tx s).drop e).drop (gp ((tx s).drop e)):=by rw [List.drop_drop]
  have rT:(tx s).drop (e + (oneE ((tx s).drop e)).2)=((tx s).drop e).drop (oneE ((tx s).drop e)).2:=by rw [List.drop_drop]
  have U5:tx (s.extract e (e + gp ((tx s).drop e)))=((tx s).drop e).take (gp ((tx s).drop e)):=by
   simp [tx,List.drop_take]
  rw [eH,xa] at eM;rw [eH] at jW sc LW Ex rT U5;have hun2:gp (c :: (tx s).drop (e + 1))=gp (c :: (tx s).drop (e + 1)):=rfl;have hP:U2 (c :: (tx s).drop (e + 1))=if okU (c :: (tx s).drop (e + 1))=false then .bo [.v (.int .i64 0),.v (.int .i64 2)] else if mQ (recV ((c :: (tx s).drop (e + 1)).take (gp (c :: (tx s).drop (e + 1)))))=true then .bo [.v (.int .i64 0),.v (.int .i64 3)] else .bo [.v (.int .i64 (gp (c :: (tx s).drop (e + 1)):Nat)),.v (.int .i64 0)]:=rfl
  rw [hP] at jZ;generalize (tx s).drop (e + 1)=r at *;generalize okU (c :: r)=ok at jZ eM;generalize mQ (recV ((c :: r).take (gp (c :: r))))=bz at jZ eM;generalize gp (c :: r)=N at *;generalize oneE (c :: r)=O at *;obtain ⟨W,n⟩:=O;simp only at LW rT eM;generalize hz:((c.toNat:Nat):Int)=z at *;have jI:((aq s (e:Int).toNat:Nat):Int)=z:=by rw [dV,hb,hz]
  refine ⟨⟨by omega,by omega⟩,?_⟩;rw [jI];refine br ?_ ?_<;>intro g
  ·have g:c.toNat=34:=by have:=of_decide_eq_true g;omega
   rw [zIfP g] at eM;subst eM;have hw:=congrArg (fun z=>DV.v (.int .i64 z)) (nxt az (by omega));refine U3 ⟨[aC 1 e,aJ 6 0],[JN],[]⟩ rfl (kt:=0) (.head _) rfl jr rfl (Nat.zero_le _) (Nat.zero_le _) rfl ⟨_,_,rfl,⟨_,_,rfl,aA rfl,_,_,rfl,aA rfl,rfl⟩,rfl⟩ ⟨⟨_,rfl,aA rfl⟩,⟨_,rfl,aA rfl⟩,trivial⟩ rfl ?_;exact ⟨_,(by repeat' (first | exact rfl | exact trivial | exact Or.inr (Or.inl ⟨_,rfl⟩) | exact Or.inr ⟨_,rfl⟩ | exact Or.inl ⟨rfl,rfl⟩ | exact Or.inl rfl | refine Or.inr ⟨_,_,rfl,Nat.zero_le _,rfl,?_⟩ | refine ⟨_,_,rfl,?_,?_⟩ | refine ⟨_,rfl,?_⟩ | exact hw | refine Or.inr (Or.inr (Or.inr ⟨_,_,rfl,?_⟩)) | exact Or.inl rfl | refine Or.inr ?_)),rfl⟩
  have g34:¬ c.toNat=34:=fun h=>of_decide_eq_false g (by omega);rw [af g34] at eM;refine ⟨⟨by omega,by omega⟩,?_⟩;rw [jI];refine br ?_ ?_<;>intro g
  ·have g:c.toNat=92:=by have:=of_decide_eq_true g;omega
   rw [zIfP g] at eM;by_cases hn:n=0
   ·subst hn;rw [zIfP rfl] at eM;subst eM;have jW:aR prog 336 [.v (.string s),.v (.int .i64 e)] (.bo [.v (.string (ba W)),.v (.int .i64 0),.v (.bool false)]):=jW;refine cP M0 jW ?_;exact ⟨_,ax,rfl⟩
   ·rw [af hn,<- rT] at eM;obtain ⟨p1,p2,p3,p4⟩:=LW hn;have jW:aR prog 336 [.v (.string s),.v (.int .i64 e)] (.bo [.v (.string (ba W)),.v (.int .i64 n),.v (.bool true)]):=by grind
    have hW:0 < (ba W).size:=by rw [Ng];exact List.length_pos_iff.2 p3
    have hw:IntKind.i64.wrap ((e:Int) + (n:Nat))=((e + n:Nat):Int):=by rw [wrap64 (by omega) (by omega)];omega
    have hlen:(l ++ W).length<=140737488355328:=by rw [List.length_append];omega
    have bF:l ++ W ≠ []:=by simp [p3]
    have Gl:(l ++ W).length<=e + n:=by rw [List.length_append];omega
    refine cP M0 jW ?_;refine uT rfl (l ++ W) (l:=l) (kt:=0) (by simp) (.head _) rfl (.inr rfl) (.inr ⟨rfl,jr,rfl,rfl⟩) hW hlen rfl ?_;exact rE ⟨_,by omega,e + n,l ++ W,.inr ⟨bF,rfl⟩,eM,by omega,Gl,rfl⟩ (wkM (wB1 hw))
  have g92:¬ c.toNat=92:=fun h=>of_decide_eq_false g (by omega);rw [af g92] at eM
  cases ok with
  | false=>
   rw [zIfP rfl] at eM jZ;subst eM;refine cP CP jZ ?_;exact ⟨_,ax,rfl⟩
  | true=>
   rw [af (by simp)] at eM jZ
   cases bz with
   | true=>
    rw [zIfP rfl] at eM jZ;subst eM;refine cP CP jZ ?_;exact ⟨_,ax,rfl⟩
   | false=>
    rw [af (by simp)] at eM jZ;rw [<- Ex] at eM;have hw:IntKind.i64.wrap ((e:Int) + (N:Nat))=((e + N:Nat):Int):=by rw [wrap64 (by omega) (by omega)];omega
    have VE:(IntKind.i64.wrap ((e:Int) + (N:Nat))).toNat=e + N:=by omega
    have fX:((c :: r).take N).length=N:=by grind
    generalize (c :: r).take N=W at *;have hext:s.extract e (e + N)=ba W:=pP U5;have hW:0 < (ba W).size:=by rw [Ng];omega
    have hWn:W ≠ []:=fun h=>by rw [h] at fX;simp at fX;omega
    have hlen:(l ++ W).length<=140737488355328:=by rw [List.length_append];omega
    have bF:l ++ W ≠ []:=by simp [hWn]
    have Gl:(l ++ W).length<=e + N:=by rw [List.length_append];omega
    refine cP CP jZ ?_;refine ⟨⟨by omega,by omega,by omega⟩,?_⟩;rw [VE,dV,hext];refine uT rfl (l ++ W) (l:=l) (kt:=0) (by simp) (.head _) rfl (.inr rfl) (.inr ⟨rfl,jr,rfl,rfl⟩) hW hlen rfl ?_;exact rE ⟨_,by omega,e + N,l ++ W,.inr ⟨bF,rfl⟩,eM,by omega,Gl,rfl⟩ (wkM (wB1 hw))
end Go.Proofs.YtfdedoiiahbnnaaGreat
