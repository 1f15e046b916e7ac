/- Part 6 of the proof: The law of least depths: fine, the example, the call returns true; The program's several, Several; The document's count, Many; the law of several values: the call returns true; The document's Many; the law of several values: the call returns true; First and second values: tags, sizes: plain; Regions that draw their order and only read: run with one state; Sample: the program's tags and sizes; Sample: the program's turn, part, first, changed; First and second values: the tables, the values: plain; Sample: the program's first, changed, second; Sample: the program's second; Sample: make1: all sizes; Rules for the evaluator: a slice literal without elements, its cells known; Rules for the evaluator: a slice literal, its cells known; A contract that hands back a fresh row is one of data alone, too; Paths of a value: plain; tree.steps; Where steps lead in a value, and that value with another one there: plain; tree: slices.Index of steps, kid, clone, Get; tree: put, Set; Sample: one: first values; Sample: two: second values; Sample: fits, First, Second; no plan; Values along paths: what stands beside, what is alive, the value itself: plain; The document's Bottom, Right of paths; the program's Right of paths; Where steps lead: the document's Edge, Walk; the program's; The program's way along steps: fits, step, Walk; Sample: what stands beside, the nodes and edges of a path, what is alive; With which schemas nothing is wrong: the document's Wrong of chapters 20, 21; the law's fine; Which levels see a place: the program's Who; Sample: the nodes and edges of a path, what is alive; Sample: a value with another one in it; Typed: list, opt; Typed: opt, union; Typed: union; Typed: record; Typed: record; tree.write, Raw; The document's Fits; Written values: well formed; the document's Same on the same value; its Raw; What is read of a value, as the plain data; What the frames of laws over values share; Values as they are written: how big they are; what is read of them; Typed: Check; how many values are in what is written; The law's turned, where nothing changes places; Whole numbers in texts: the document's Take; Escapes: the document's hex; Escapes: the document's One; Texts in quotes: the unit at a place, as it is written; Texts in quotes: the document's unit; the program's and the document's Quote; Texts in quotes that are read: the document's Unquote; Tokens: the document's Signs at a place, Mark, one; Tokens: the document's Mark, one; All tokens of a text, or what is wrong: the document's Scan; The reader of schemas: its end; Parse, what it reads known; The readers of schemas: any text is read as the document reads it; The law of checks: the call returns true; What is wrong with a coarse view, exactly: the document's Wrong of chapter 20; What is wrong with a coarse view: the program's effect.Check; The chapter's examples of checked schemas; The law of checked schemas: the call returns true; The law of checked texts: the call returns true; Texts that are written: how they are cut; Written texts are read back: single tokens, names, labels; Written texts are read back: marks of a part, lists; Written texts are read back: parts and types; Written texts are read back: types; Types with which nothing is wrong may be written; Which schemas may be written, and their text: plain, and the program's; A schema's text is read back; The numbers of a schema that was read are ints; The reference of chapters 15 and 17 on schemas: Placeless, Same, Great; The law of a type's text: the call returns true; The law of schemas without places: the call returns true; What is wrong with a schema without places; the nodes of its plan; The program's text of a schema; What is written of a schema, and whether it may be, does not look at places; The law of schemas' texts that are read back: the call returns true. No condition. -/
import Derived.Test.YtfdedoiiahbnnaaGreatNe2
import Derived.Test.YtfdedoiiahbnnaaGreatNe3
import Derived.Test.YtfdedoiiahbnnaaGreatNe4
import Derived.Test.YtfdedoiiahbnnaaGreatNe5
set_option linter.all false
set_option maxRecDepth 100000
namespace Go.Proofs.YtfdedoiiahbnnaaGreat
open Go Go.RowKit Dv Go.Proofs.Tryz
def Wq (n:Nat):Nat:=min n 4097
def othE (t:List Nat) (k:Nat × Option Nat):Nat:=match k.2 with
 | none=>k.1
 | some j=>if t.getD j 0=0 then 0 else Wq (k.1 + t.getD j 0)
def Wr (kf:Nat->Option (Nat × Option Nat)) (t:List Nat):Prop:=∀ i,t.getD i 0≠0->∃ k,kf i=some k/\t.getD i 0=othE t k
section
variable {kf:Nat->Option (Nat × Option Nat)} {N:Nat}
theorem lV (kf:Nat->Option (Nat × Option Nat)) (N:Nat):Wr kf (List.replicate N 0):=fun i hi=>by grind
end
structure Pl where
 i:Nat
 d:Nd
 k:Nat
 s:DC
def S4 (ck:Int):Int:=if ck=3 then 5 else if ck=2 then 3 else 2
theorem wF {c:UInt8} (h:c∈tx jw):c.toNat ∈ [123,125,91,93,40,41,44,58,61,60,62,64,43,35,126,42]:=by
 have e:tx jw=[123,125,91,93,40,41,44,58,61,60,62,64,43,35,126,42]:=rfl;rw [e] at h;simp only [List.mem_cons,List.not_mem_nil,or_false] at h;rcases h with rfl | rfl | rfl | rfl | rfl | rfl | rfl | rfl | rfl | rfl | rfl | rfl | rfl | rfl | rfl | rfl<;>decide
theorem wG {l:List UInt8} {c:UInt8}:0<=Lib.indexByte l c↔c∈l:=by grind [zR]
theorem xP {s:ByteArray} {i:Nat} (hi:i < s.size):sN (s.extract i s.size) mB=true↔aE s i=46/\i + 1 < s.size/\aE s (i + 1)=46:=by
 obtain ⟨c,ep,hb⟩:=bp hi;have ep:(tx s).drop i=c :: (tx s).drop (i + 1):=ep;have dp:(s.extract i s.size).size=s.size - i:=by simp
 have hx:tx ((s.extract i s.size).extract 0 mB.size)=((tx s).drop i).take 2:=by
  rw [D4]
  have:tx (s.extract i s.size)=(tx s).drop i:=by
   simp [tx];exact List.take_of_length_le (by rw [List.length_drop];have:=bf s;unfold tx at this;omega)
  rw [this];rfl
 have Ws:(s.extract i s.size).extract 0 mB.size=mB↔((tx s).drop i).take 2=[46,46]:=by
  rw [<- hx];constructor
  ·intro h;rw [h];all_goals rfl
  ·intro h;have:=cF h;rw [this];rfl
 unfold sN;rw [aZ,decide_eq_true_iff,decide_eq_true_iff,Ws,dp,ep,show mB.size=2 from rfl,hb];by_cases h2:i + 1 < s.size
 ·obtain ⟨d,mA,jr⟩:=bp h2;have mA:(tx s).drop (i + 1)=d :: (tx s).drop (i + 1 + 1):=mA;rw [mA,jr];simp only [List.take_succ_cons,List.take_zero,List.cons.injEq,and_true];have e:∀ x:UInt8,x=46↔x.toNat=46:=fun x=>⟨fun h=>by rw [h];rfl,fun h=>UInt8.toNat_inj.1 h⟩
  grind
 all_goals omega
theorem S5 (s:ByteArray) (i:Nat):aE s i < 256:=by
 unfold aE;exact UInt8.toNat_lt _
theorem Ge {s:ByteArray} {i:Nat} (hi:i < s.size) (h:aE s i=45∨(48<=aE s i/\aE s i<=57)∨aE s i=34):eL s i=⟨#[]⟩:=by
 have h8:=S5 s i;unfold eL
 rw [af (fun hh=>by have:=((xP hi).1 hh).1;omega),af (fun hh=>by
  have hm:=wF (wG.1 hh);have e:((aE s i).toUInt8).toNat=aE s i:=by simp_all
  rw [e] at hm;simp only [List.mem_cons,List.not_mem_nil,or_false] at hm
  omega)]
theorem LQ (c:aq) (h:av c) (hf:c.f.1≠0):Ev prog 87 [gI] [aJ c] [] (kN c.f.d c):=by
 have h1:=kF c;rw [decide_eq_false hf] at h1;have h2:=kE c;obtain ⟨l,p,d,f1,f2⟩:=c;refine eG 18 [.cell 2 26] func87 rfl ntmps87 rfl fun _ _ _ _=>?_;refine ak 1 DO h1 ?_;refine ak 1 DM h2 ?_;exact ⟨Ft.d (f1,f2),[aJ _],bU,bU,rfl,rfl,rfl⟩
theorem Pv (c:aq) (h:av c) (hf:c.f.1=0) (hp:c.aA.k=0):Ev prog 87 [gI] [aJ c] [] (kN c.f.d c):=by
 have h1:=kF c;rw [decide_eq_true hf] at h1;have h2:=kE c;have h3:=dM c h;generalize c.aA=t at hp h3;obtain ⟨tk,ta,te,ts,tn⟩:=t;simp only at hp;subst hp;obtain ⟨l,p,d,f1,f2⟩:=c;refine eG 18 [.cell 2 26] func87 rfl ntmps87 rfl fun _ _ _ _=>?_;refine ak 1 DO h1 ?_;refine ak 1 hU h3 ?_;refine ak 1 DM h2 ?_;exact ⟨Ft.d (f1,f2),[aJ _],bU,bU,rfl,rfl,rfl⟩
abbrev Db:eW:=⟨[],[],[],SC 0 0⟩
theorem Gf (s:ByteArray) (l:List dj) (qg:cw prog 157 [.v (.string s)] (.cp [.sl 5 (fv l) none,Ft.d (0,0)])) (S:eW) (c5 c6:aq) (f:Ft) (Wt:Ev prog 86 [gI] [aJ (jX l)] [] (kN (.agg (fy S)) c5)) (LD:Ev prog 87 [gI] [aJ c5] [] (kN f.d c6)) :
  cw prog 35 [.v (.string s)] (.cp [.agg (fy (if f.1=0 then S else Db)),f.d]):=by
 have dn:=Po s l qg;generalize hQ:(if f.1=0 then S else Db)=Q;obtain ⟨ay,order,types,⟨rh,rp⟩⟩:=S;refine eG 31 [.cell 2 38,.cell 3 26] func35 rfl ntmps35 rfl fun _ _ _ _=>?_;refine Pn QL rfl dn ax (fun r os hΦ=>?_);obtain ⟨rfl,rfl⟩:=hΦ;refine CallG.Lb 0 2 rfl rfl rfl rfl ?_;refine ak 1 UR Wt ?_;refine ak 1 US LD ?_;refine br ?_ ?_<;>intro g
 ·have g:¬ f.1=0:=sU g;rw [af g] at hQ;subst hQ;refine cz [1,2] (fun _=>false) mo (by decide +kernel) ?_;exact ⟨_,ax,rfl⟩
 ·have g:f.1=0:=sU g;rw [aj g] at hQ;subst hQ;refine cz [1,2] (fun _=>false) mo (by decide +kernel) ?_;exact ⟨_,ax,rfl⟩
theorem wH (l:List dj) (e:Int) (hl:l.length<=274877906943):av (jX (l ++ [gT e])) where
 lt:=by show 0 < (l ++ [gT e]).length;simp
 nx:=fun i t hi hk=>by
  show i + 1 < (l ++ [gT e]).length;have hi:(l ++ [gT e])[i]? = some t:=hi;rw [List.getElem?_append] at hi;split at hi
  ·rename_i h;simp;omega
  ·rename_i h;have h2:=(gS hi).1;have h3:i - l.length=0:=by simp at h2;omega
   rw [h3] at hi;simp only [List.getElem?_cons_zero,oI] at hi;subst hi;exact absurd rfl hk
 len:=by show (l ++ [gT e]).length<=_;simp;omega
 dl:=by show 0<=24;omega
def Ay (c:aq):aq:=if c.f.1=0/\c.aA.k≠0 then c.fail 4 else c
theorem Gg (c:aq) (h:av c):Ev prog 87 [gI] [aJ c] [] (kN (Ay c).f.d (Ay c)):=by
 unfold Ay;by_cases hf:c.f.1=0
 ·by_cases hk:c.aA.k=0
  ·grind [Pv]
  ·rw [aj ⟨hf,hk⟩];have h1:=kF c;rw [decide_eq_true hf] at h1;have h3:=dM c h;have h4:=gv c h 4;have h2:=kE (c.fail 4);generalize c.fail 4=C4 at h2 h4 ⊢;generalize c.aA=t at hk h3;obtain ⟨tk,ta,te,ts,tn⟩:=t;simp only at hk;obtain ⟨l,p,d,f1,f2⟩:=c;obtain ⟨l4,p4,d4,f14,f24⟩:=C4;refine eG 18 [.cell 2 26] func87 rfl ntmps87 rfl fun _ _ _ _=>?_;refine ak 1 DO h1 ?_;refine ak 1 hU h3 ?_;refine br (fun _=>?_) (fun g=>absurd (by simpa [pickB] using g) hk);refine ak 1 sq h4 ?_;refine ak 1 DM h2 ?_;exact ⟨Ft.d (f14,f24),[aJ _],bU,bU,rfl,rfl,rfl⟩
 ·grind [LQ]
theorem LR (s:ByteArray) (f:Ft) (h0:¬ f.1=0) (qg:cw prog 157 [.v (.string s)] (.cp [.v (.slice none 0 0),Ft.d f])):cw prog 85 [.v (.string s)] (.cp [.v (.pointer none),Ft.d f]):=by
 obtain ⟨f1,f2⟩:=f;simp only at h0;refine eG 19 [.tmp 2,.cell 3 26] func85 rfl ntmps85 rfl fun _ _ _ _=>?_;refine cP QU qg ?_;refine br (fun _=>?_) (fun g=>absurd (sU g) h0);refine cz [0] (fun _=>false) mo (by decide +kernel) ?_;exact ⟨_,ax,rfl⟩
theorem wI (s:ByteArray) (f:Ft) (h0:¬ f.1=0) (qg:cw prog 157 [.v (.string s)] (.cp [.v (.slice none 0 0),Ft.d f])):cw prog 35 [.v (.string s)] (.cp [.agg (fy Db),Ft.d f]):=by
 have hn:=LR s f h0 qg;obtain ⟨f1,f2⟩:=f;simp only at h0;refine eG 31 [.cell 2 38,.cell 3 26] func35 rfl ntmps35 rfl fun _ _ _ _=>?_;refine cP QL hn ?_;refine br (fun _=>?_) (fun g=>absurd (sU g) h0);refine cz [0,1] (fun _=>false) mo (by decide +kernel) ?_;exact ⟨_,ax,rfl⟩
def Dc (L:List dj):eW × Ft:=(if (Ay (cY (jX L)).2).f.1=0 then (cY (jX L)).1 else Db,(Ay (cY (jX L)).2).f)
theorem tW (s:ByteArray) (L:List dj) (hL:av (jX L)) (qg:cw prog 157 [.v (.string s)] (.cp [.sl 5 (fv L) none,Ft.d (0,0)])):cw prog 35 [.v (.string s)] (.cp [.agg (fy (Dc L).1),Ft.d (Dc L).2]):=
 Gf s L qg _ _ _ _ (xO (jX L) hL rfl) (Gg _ (qH (Sm.self hL) rfl).sm.ok)
theorem Jv {s:ByteArray} {i:Nat} {t:dj} (h:ir s i=(t,(0,0))) (hk:t.k=1):t.s.size<=32:=by
 unfold ir at h;by_cases h1:bw ((tx s).drop i)≠0
 ·rw [aj h1] at h;by_cases h2:bw ((tx s).drop i)<=32
  ·rw [aj h2] at h;injection h with h3 _
   rw [<- h3];show (s.extract i (i + bw ((tx s).drop i))).size<=32;simp;omega
  all_goals grind
 grind
theorem tX {s:ByteArray} {i:Nat} {l:List dj} {f:Ft} (h:iT s i l f):i<=s.size/\l.length + i<=s.size/\muL l + 1088 * i<=1088 * s.size/\∀ t∈l,t.k≠0:=by
 induction h with
 | nil=>exact ⟨bn _,by simp,by simp [muL],fun t ht=>by cases ht⟩
 | blank h1 _ _ ih=>exact ⟨by omega,by omega,by omega,ih.2.2.2⟩
 | rem h1 _ _ h4 _ _ ih=>exact ⟨by omega,by omega,by omega,ih.2.2.2⟩
 | Lp h1 _ _ _=>exact ⟨by omega,by simp;omega,by simp [muL];omega,fun t ht=>by cases ht⟩
 | Lq h1 _ _ _ _=>exact ⟨by omega,by simp;omega,by simp [muL];omega,fun t ht=>by cases ht⟩
 | @tok i e t l f h1 h2 h3 h4 h5 h6 h7 h8 ih=>grind [IU,Jv,M3,muL]
theorem LS (a b:List dj):muL (a ++ b)=muL a + muL b:=by
 induction a with
 | nil=>simp [muL]
 | cons t r ih=>simp only [List.cons_append,muL,ih];omega
theorem LU {L:List dj} (hL:av (jX L)):(Dc L).1.wt<=muL L + 320:=by
 unfold Dc;split
 ·rename_i h0;have h1:(cY (jX L)).2.f.1=0:=by grind [Ay,oN]
  have:=CW hL rfl h1;have e:dm (jX L)=muL L:=rfl;show (cY (jX L)).1.wt<=_;omega
 ·show 320<=_;omega
def chkA:List Nat->List Nd->Ft
 | k :: r,n :: s=>if k=0 then (11,n.dR) else chkA r s
 | _,_=>(0,0)
def effE (f:Nat->Nat->Bool) (ND:List Nd) (e:Ed):Ft:=
 if e.ck=0 then (0,0) else match ND[e.to.toNat]? with | none=>(14,e.ca) | some m=>if m.au=S4 e.ck then (if (f e.seen.toNat e.label.toNat && !f e.label.toNat e.seen.toNat)=true then (0,0) else (18,e.ca)) else (14,e.ca)
def jC (r:List UInt8):Prop:=∀ c,r.head? = some c->fm c.toNat=false
theorem Jw {r:List UInt8} (h:jC r):∀ c,r.head? = some c->fW c=false:=fun c hc=>by
 have:=h c hc;simp only [fm,isLet,Bool.or_eq_false_iff,Bool.and_eq_false_iff,decide_eq_false_iff_not] at this;simp only [fW,Bool.and_eq_false_iff,decide_eq_false_iff_not];omega
theorem tY (n:Nat) (h:n < 10):fW (UInt8.ofNat (48 + n))=true/\(UInt8.ofNat (48 + n)).toNat=48 + n:=by
 have e:(UInt8.ofNat (48 + n)).toNat=48 + n:=by rw [UInt8.toNat_ofNat'];omega
 refine ⟨?_,e⟩;simp only [fW,e,aZ,decide_eq_true_eq];omega
theorem tZ (n:Nat):∀ c∈eP n,fW c=true:=by
 induction n using Nat.strongRecOn with
 | _ n ih=>
  by_cases h:n < 10
  ·rw [jg h];intro c hc;rw [List.mem_singleton.1 hc];exact (tY n h).1
  ·rw [mb h];intro c hc;rcases List.mem_append.1 hc with hc | hc
   ·exact ih (n / 10) (by omega) c hc
   ·rw [List.mem_singleton.1 hc];exact (tY (n % 10) (by omega)).1
theorem Jx (n:Nat):fQ (eP n)=n:=by
 induction n using Nat.strongRecOn with
 | _ n ih=>
  by_cases h:n < 10
  ·rw [jg h];have:=(tY n h).2;simp only [fQ,List.foldl_cons,List.foldl_nil,this];omega
  ·rw [mb h,vR,ih (n / 10) (by omega),(tY (n % 10) (by omega)).2];omega
theorem rz (n:Nat):eP n ≠ []:=by
 by_cases h:n < 10
 ·rw [jg h];simp
 ·rw [mb h];simp
theorem Gh (n:Nat):∀ c,(eP n).head? = some c->c.toNat=48->n=0:=by
 induction n using Nat.strongRecOn with
 | _ n ih=>
  intro c hc yf;by_cases h:n < 10
  ·rw [jg h] at hc;simp only [List.head?_cons,oI] at hc;rw [<- hc,(tY n h).2] at yf;omega
  ·rw [mb h,List.head?_append] at hc
   obtain ⟨c',yr⟩:∃ c',(eP (n / 10)).head? = some c':=by
    cases hd:eP (n / 10) with
    | nil=>exact absurd hd (rz _)
    | cons x l=>exact ⟨x,rfl⟩
   rw [yr] at hc;obtain rfl:c'=c:=sU hc;have:=ih (n / 10) (by omega) c' yr yf;omega
theorem Az:∀ {l r:List UInt8},(∀ c∈l,fW c=true)->(∀ c,r.head? = some c->fW c=false)->digN (l ++ r)=l.length
 | [],[],_,_=>rfl
 | [],c :: r,_,h=>by
  have:=h c rfl;show digN (c :: r)=0;rw [digN,this,af (by simp)]
 | c :: l,r,h1,h2=>by
  rw [List.cons_append,digN,aj (h1 c (by simp)),Az (fun x hx=>h1 x (eB _ hx)) h2,List.length_cons]
theorem AA {T l r:List UInt8} {a:Nat} (h:T.drop a=l ++ r) (hl:l ≠ []):T[a]? = l.head?:=by
 have:(T.drop a)[0]? = T[a]?:=by rw [List.getElem?_drop];all_goals rfl
 rw [<- this,h]
 cases l with
 | nil=>exact absurd rfl hl
 | cons c l=>rfl
theorem Gi {s:ByteArray} {i:Nat} {z:Int} {r:List UInt8} (hz:fO z) (h:(tx s).drop i=eK z ++ r) (hr:jC r):takeN s i=(z,((i + (eK z).length:Nat):Int),0,0):=by
 have hd:=Jw hr
 have hp:eK z ≠ []:=by
  unfold eK;split
  ·simp
  ·exact rz _
 have hT:=AA h hp;have hlen:=rz z.natAbs;have BR:(eP z.natAbs).length≠0:=fun h0=>hlen (List.length_eq_zero_iff.1 h0);have hN:=Az (tZ z.natAbs) hd;have hV:=Jx z.natAbs;have hH:=Gh z.natAbs;obtain ⟨h1,h2⟩:=hz;by_cases S6:z < 0
 ·have e:eK z=45 :: eP z.natAbs:=zd S6;rw [e] at hT h ⊢;rw [lN (c:=45) hT,aj (by decide),show decide ((45:UInt8).toNat=45)=true from rfl]
  have ep:(tx s).drop (i + 1)=eP z.natAbs ++ r:=by
   rw [<- List.drop_drop,h];rfl
  have TI:=AA ep hlen;unfold qW
  rw [ep,hN,TI,af (fun h=>BR h.1),af BR,af (fun h=>by
   obtain ⟨c,hc,yf⟩:=Option.map_eq_some_iff.1 h.1;have:=hH c hc yf
   omega),List.take_left,fT,aj rfl,hV,aj (show z.natAbs<=9223372036854775808 by omega),aj rfl]
  refine Prod.ext ?_ (Prod.ext ?_ rfl)
  ·show -((z.natAbs:Nat):Int)=z;omega
  ·show ((i + 1 + (eP z.natAbs).length:Nat):Int)=((i + (45 :: eP z.natAbs).length:Nat):Int);rw [List.length_cons];omega
 ·have e:eK z=eP z.natAbs:=by
   unfold eK;rw [af S6]
  rw [e] at hT h ⊢
  obtain ⟨c,hc⟩:∃ c,(eP z.natAbs).head? = some c:=by
   cases hd:eP z.natAbs with
   | nil=>exact absurd hd hlen
   | cons c l=>exact ⟨c,rfl⟩
  rw [hc] at hT;have hcd:=tZ z.natAbs c (List.mem_of_mem_head? hc);simp only [fW,aZ,decide_eq_true_eq] at hcd;rw [lN hT,af (by omega),decide_eq_false (show ¬ c.toNat=45 by omega)];unfold qW
  rw [h,hN,hT,af (fun h=>BR h.1),af BR,af (fun h=>by
   have yf:c.toNat=48:=by simpa using h.1
   have:=hH c hc yf;rw [this,jg (by decide)] at h
   simp at h),List.take_left,fT,af (show ¬ false=true by simp),hV,aj (show z.natAbs<=9223372036854775807 by omega),aj rfl]
  refine Prod.ext ?_ rfl;show ((z.natAbs:Nat):Int)=z;omega
theorem wJ:∀ {l r:List UInt8},signs l=l.length->jC r->signs (l ++ r)=l.length
 | [],[],_,_=>rfl
 | [],c :: r,_,h=>by
  show signs (c :: r)=0;rw [signs,h c rfl,af (by simp)]
 | c :: l,r,h1,h2=>by
  rw [signs] at h1;split at h1
  ·rename_i hc;rw [List.cons_append,signs,aj hc,wJ (sU h1) h2,List.length_cons]
  ·simp at h1
theorem Jy {w:ByteArray} {r:List UInt8} (h:az w=true) (hr:jC r):bw (tx w ++ r)=w.size/\0 < w.size/\w.size<=32/\∃ c l,tx w=c :: l/\isLet c.toNat=true:=by
 simp only [az,aZ,decide_eq_true_eq] at h;obtain ⟨h1,h2,h3⟩:=h;have h3:bw (tx w)=w.size:=h3;have hl:=bf w
 cases ht:tx w with
 | nil=>rw [ht] at hl;simp at hl;omega
 | cons c l=>
  rw [ht] at h3 hl;rw [bw] at h3;split at h3
  ·rename_i hc;rw [List.length_cons] at hl;refine ⟨?_,h1,h2,c,l,rfl,hc⟩;rw [List.cons_append,bw,aj hc,wJ (by omega) hr];omega
  ·omega
def S7 (t:dj):dj:=⟨t.k,0,0,t.s,t.n⟩
def eQ (w:ByteArray):dj:=⟨1,0,0,w,0⟩
def cU (m:UInt8):dj:=⟨4,0,0,⟨#[m]⟩,0⟩
def LV:dj:=⟨4,0,0,mB,0⟩
def xQ (z:Int):dj:=⟨2,0,0,aY,z⟩
inductive aP:List UInt8->List dj->Prop
 | nil:aP [] []
 | blank {r:List UInt8} {L:List dj}:aP r L->aP (32 :: r) L
 | name {w:ByteArray} {r:List UInt8} {L:List dj}:az w=true->jC r->aP r L->aP (tx w ++ r) (eQ w :: L)
 | mark {m:UInt8} {r:List UInt8} {L:List dj}:m∈tx jw->aP r L->aP (m :: r) (cU m :: L)
 | S8 {r:List UInt8} {L:List dj}:aP r L->aP (46 :: 46 :: r) (LV :: L)
 | num {z:Int} {r:List UInt8} {L:List dj}:fO z->jC r->aP r L->aP (eK z ++ r) (xQ z :: L)
theorem AB {T l r:List UInt8} {i:Nat} (h:T.drop i=l ++ r):T.drop (i + l.length)=r:=by
 rw [<- List.drop_drop,h,List.drop_left]
theorem nP {c:UInt8} {r:List UInt8} (h:isLet c.toNat=false):bw (c :: r)=0:=by rw [bw,h,af (by simp)]
theorem Jz {s:ByteArray}:∀ {T:List UInt8} {L:List dj},aP T L->∀ i,i<=s.size->(tx s).drop i=T->∃ l,iT s i l (0,0)/\l.map S7=L:=by
 intro T L h
 induction h with
 | nil=>
  intro i hi hT;have hl:=congrArg List.length hT;rw [List.length_drop,bf,List.length_nil] at hl;obtain rfl:i=s.size:=by omega
  exact ⟨[],.nil,rfl⟩
 | @blank r L _ ih=>
  intro i hi hT;have hl:=congrArg List.length hT;rw [List.length_drop,bf,List.length_cons] at hl;have aS:i < s.size:=by omega
  obtain ⟨c,ep,hb⟩:=bp aS;have ep:(tx s).drop i=c :: (tx s).drop (i + 1):=ep;rw [hT] at ep;obtain ⟨rfl,hr⟩:=List.cons.inj ep;obtain ⟨l,h1,h2⟩:=ih (i + 1) (by omega) hr.symm;exact ⟨l,.blank aS (by rw [hb];rfl) h1,h2⟩
 | @name w r L hw hr _ ih=>
  intro i hi hT;obtain ⟨n1,n2,n3,c,l,n4,n5⟩:=Jy hw hr;have S9:=bf w;have hl:=congrArg List.length hT;rw [List.length_drop,bf,List.length_append,S9] at hl;have aS:i < s.size:=by omega
  obtain ⟨c',ep,hb⟩:=bp aS;have ep:(tx s).drop i=c' :: (tx s).drop (i + 1):=ep;rw [hT,n4] at ep;obtain ⟨rfl,_⟩:=List.cons.inj ep;simp only [isLet,aZ,decide_eq_true_eq] at n5;have mA:=AB hT;rw [S9] at mA
  have hex:s.extract i (i + w.size)=w:=by
   have e:tx (s.extract i (i + w.size))=tx w:=by
    have e1:tx (s.extract i (i + w.size))=((tx s).drop i).take w.size:=by simp [tx,List.drop_take]
    rw [e1,hT,<- S9,List.take_left]
   have:=cF e;rw [this,D1]
  have fl:ir s i=(⟨1,i,(i + w.size:Nat),w,0⟩,(0,0)):=by
   unfold ir;rw [hT,n1,aj (by omega),aj n3,hex]
  obtain ⟨l',h1,h2⟩:=ih (i + w.size) (by omega) mA;refine ⟨_,.tok aS ?_ (by omega) fl rfl (by omega) (by omega) h1,by rw [List.map_cons,h2];rfl⟩;rw [hb];simp only [gU,Bool.or_eq_false_iff,decide_eq_false_iff_not];omega
 | @mark m r L hm _ ih=>
  intro i hi hT;have hl:=congrArg List.length hT;rw [List.length_drop,bf,List.length_cons] at hl;have aS:i < s.size:=by omega
  obtain ⟨c,ep,hb⟩:=bp aS;have ep:(tx s).drop i=c :: (tx s).drop (i + 1):=ep;rw [hT] at ep;obtain ⟨rfl,hr⟩:=List.cons.inj ep;have h8:=wF hm;simp only [List.mem_cons,List.not_mem_nil,or_false] at h8
  have se:isLet m.toNat=false:=by
   simp only [isLet,Bool.and_eq_false_iff,decide_eq_false_iff_not];omega
  have Pe:eL s i=⟨#[m]⟩:=by
   unfold eL
   rw [af (fun h=>by have:=(xP aS).1 h;omega),aj (by
    rw [wG]
    have e:(aE s i).toUInt8=m:=by
     rw [hb];exact UInt8.toNat_inj.1 (by simp)
    rw [e]
    exact hm)]
   have e:tx (s.extract i (i + 1))=[m]:=by
    have e1:tx (s.extract i (i + 1))=((tx s).drop i).take 1:=by simp [tx,List.drop_take]
    rw [e1,hT];rfl
   exact cF e
  have fl:ir s i=(⟨4,i,(i + 1:Nat),⟨#[m]⟩,0⟩,(0,0)):=by
   unfold ir;rw [hT,nP se,af (by simp),Pe,aj (by simp)];rfl
  obtain ⟨l',h1,h2⟩:=ih (i + 1) (by omega) hr.symm;refine ⟨_,.tok aS ?_ (by omega) fl rfl (by omega) (by omega) h1,by rw [List.map_cons,h2];rfl⟩;rw [hb];simp only [gU,Bool.or_eq_false_iff,decide_eq_false_iff_not];omega
 | @S8 r L _ ih=>
  intro i hi hT;have hl:=congrArg List.length hT;rw [List.length_drop,bf,List.length_cons,List.length_cons] at hl;have aS:i < s.size:=by omega
  have Hs:i + 1 < s.size:=by omega
  obtain ⟨c,ep,hb⟩:=bp aS;obtain ⟨c2,mA,jr⟩:=bp Hs;have ep:(tx s).drop i=c :: (tx s).drop (i + 1):=ep;have mA:(tx s).drop (i + 1)=c2 :: (tx s).drop (i + 1 + 1):=mA;rw [hT] at ep;obtain ⟨rfl,hr⟩:=List.cons.inj ep;rw [mA] at hr;obtain ⟨rK,OL⟩:=List.cons.inj hr;subst rK;have hb:aE s i=46:=hb;have jr:aE s (i + 1)=46:=jr
  have Pe:eL s i=mB:=by
   unfold eL;rw [aj ((xP aS).2 ⟨hb,Hs,jr⟩)]
  have fl:ir s i=(⟨4,i,(i + 2:Nat),mB,0⟩,(0,0)):=by
   unfold ir;rw [hT,nP (by decide),af (by simp),Pe,aj (by decide)];rfl
  obtain ⟨l',h1,h2⟩:=ih (i + 2) (by omega) OL.symm;exact ⟨_,.tok aS (by rw [hb];rfl) (by omega) fl rfl (by omega) (by omega) h1,by rw [List.map_cons,h2];rfl⟩
 | @num z r L hz hr _ ih=>
  intro i hi hT
  have hp:eK z ≠ []:=by
   unfold eK;split
   ·simp
   ·exact rz _
  obtain ⟨c0,l0,Np⟩:∃ c l,eK z=c :: l:=by
   cases h:eK z with
   | nil=>exact absurd h hp
   | cons c l=>exact ⟨c,l,rfl⟩
  have Fa:c0.toNat=45∨(48<=c0.toNat/\c0.toNat<=57):=by
   unfold eK at Np;split at Np
   ·obtain ⟨rfl,_⟩:=List.cons.inj Np;exact .inl rfl
   ·have:=tZ z.natAbs c0 (by rw [Np];simp);simp only [fW,aZ,decide_eq_true_eq] at this;exact .inr this
  have hl:=congrArg List.length hT;rw [List.length_drop,bf,List.length_append] at hl;have nS:0 < (eK z).length:=by rw [Np];simp
  have aS:i < s.size:=by omega
  obtain ⟨c,ep,hb⟩:=bp aS;have ep:(tx s).drop i=c :: (tx s).drop (i + 1):=ep;have htn:=Gi hz hT hr;have mA:=AB hT;have TI:=hT;rw [hT,Np] at ep;obtain ⟨rfl,_⟩:=List.cons.inj ep
  have se:isLet c0.toNat=false:=by
   simp only [isLet,Bool.and_eq_false_iff,decide_eq_false_iff_not];omega
  have Pe:=Ge aS (by rw [hb];omega)
  have fl:ir s i=(⟨2,i,((i + (eK z).length:Nat):Int),aY,z⟩,(0,0)):=by
   unfold ir;rw [hT,Np,List.cons_append,nP se,af (by simp),Pe,af (by simp),aj (by rw [hb];exact Fa),htn,aj rfl,Np]
  obtain ⟨l',h1,h2⟩:=ih (i + (eK z).length) (by omega) mA;refine ⟨_,.tok aS ?_ (by omega) fl rfl (by omega) (by omega) h1,by rw [List.map_cons,h2];rfl⟩;rw [hb];simp only [gU,Bool.or_eq_false_iff,decide_eq_false_iff_not];omega
structure At (c:aq) (L:List dj):Prop where
 ok:av c
 f:c.f.1=0
 l:(c.l.drop c.p).map S7=L
namespace At
variable {c:aq} {L:List dj}
theorem aA {x:dj} (h:At c (x :: L)):c.aA.k=x.k/\c.aA.s=x.s/\c.aA.n=x.n:=by
 obtain ⟨t,h1,h2⟩:=h.ok.aA h.f;have h3:=h.l;rw [drop_cons h1,List.map_cons] at h3;obtain ⟨h4,_⟩:=List.cons.inj h3;rw [h2,<- h4];exact ⟨rfl,rfl,rfl⟩
theorem step {x:dj} (h:At c (x :: L)) (hk:x.k≠0):At c.step L:=by
 obtain ⟨t,h1,h2⟩:=h.ok.aA h.f;have h3:=h.l;rw [drop_cons h1,List.map_cons] at h3;obtain ⟨h4,h5⟩:=List.cons.inj h3;have gD:c.aA.k≠0:=by rw [h.aA.1];exact hk
 have e:c.step={ c with p:=c.p + 1 }:=by rw [aq.step,af gD]
 exact ⟨h.ok.step,by rw [e];exact h.f,by rw [e];exact h5⟩
theorem is {x:dj} (h:At c (x :: L)) (k:Int) (s:ByteArray):c.is k s=(decide (x.k=k) && decide (x.s=s)):=by
 obtain ⟨h1,h2,_⟩:=h.aA;rw [aq.is,h1,h2]
theorem ae {m:UInt8} (h:At c (cU m :: L)):At (c.ae ⟨#[m]⟩) L:=by
 have hi:c.is 4 ⟨#[m]⟩=true:=by rw [h.is];simp [cU]
 rw [aq.ae,aj hi];exact h.step (by show (4:Int)≠0;decide)
theorem Ta (h:At c (LV :: L)):At (c.ae fX) L:=by
 have hi:c.is 4 fX=true:=by rw [h.is];all_goals rfl
 rw [aq.ae,aj hi];exact h.step (by show (4:Int)≠0;decide)
theorem kw {w:ByteArray} (h:At c (eQ w :: L)):At (c.kw w) L:=by
 have hi:c.is 1 w=true:=by rw [h.is];simp [eQ]
 rw [aq.kw,aj hi];exact h.step (by show (1:Int)≠0;decide)
theorem tk {x:dj} (h:At c (x :: L)) (hk:x.k≠0):c.tk x.k=true/\c.td x.k=c.aA:=by
 have h1:c.tk x.k=true:=by
  rw [aq.tk,h.aA.1];simp [hk]
 exact ⟨h1,by rw [aq.td,aj h1]⟩
theorem name {w:ByteArray} (h:At c (eQ w :: L)):c.aH.s=w/\At c.ai L:=by
 obtain ⟨h1,h2⟩:=h.tk (show (1:Int)≠0 by decide);have h1:c.tk 1=true:=h1;have h2:c.td 1=c.aA:=h2;refine ⟨by rw [aq.aH,h2];exact h.aA.2.1,?_⟩;rw [aq.ai,aj h1];exact h.step (by show (1:Int)≠0;decide)
theorem num {z:Int} (h:At c (xQ z :: L)):c.fA=z/\At c.bq L:=by
 obtain ⟨h1,h2⟩:=h.tk (show (2:Int)≠0 by decide);have h1:c.tk 2=true:=h1;have h2:c.td 2=c.aA:=h2;refine ⟨by rw [aq.fA,h2];exact h.aA.2.2,?_⟩;rw [aq.bq,aj h1];exact h.step (by show (2:Int)≠0;decide)
theorem JZ {m:UInt8} (h:At c (cU m :: L)):c.is 4 ⟨#[m]⟩=true/\At c.step L:=
 ⟨by rw [h.is];simp [cU],h.step (by show (4:Int)≠0;decide)⟩
theorem Tb {w:ByteArray} (h:At c (eQ w :: L)):c.is 1 w=true/\At c.step L:=
 ⟨by rw [h.is];simp [eQ],h.step (by show (1:Int)≠0;decide)⟩
end At
def Dd (ms:List UInt8) (L:List dj):Prop:=∀ m∈ms,∀ x,L.head? = some x->¬ (x.k=4/\x.s=⟨#[m]⟩)
theorem At.notM {c:aq} {L:List dj} (h:At c L) {ms:List UInt8} (hn:Dd ms L) {m:UInt8} (hm:m∈ms):c.is 4 ⟨#[m]⟩=false:=by
 obtain ⟨t,h1,h2⟩:=h.ok.aA h.f;have h3:=h.l;rw [drop_cons h1,List.map_cons] at h3;rw [<- h3] at hn;have:=hn m hm (S7 t) rfl;rw [aq.is,h2];simp only [Bool.and_eq_false_iff,decide_eq_false_iff_not];by_cases hk:t.k=4
 ·exact .inr fun h=>this ⟨hk,h⟩
 ·exact .inl hk
theorem j5 {ms:List UInt8} {m:UInt8} {L:List dj} (h:∀ x∈ms,x≠m):Dd ms (cU m :: L):=fun x hx t ht=>by
 simp only [List.head?_cons,oI] at ht;subst ht;rintro ⟨_,h2⟩;have h2:(⟨#[m]⟩:ByteArray)=⟨#[x]⟩:=h2;have:m=x:=sU h2;exact h x hx this.symm
theorem mi {ms ns:List UInt8} {L:List dj} (h:Dd ms L) (hs:∀ x∈ns,x∈ms):Dd ns L:=fun m hm=>h m (hs m hm)
def labK (l:List Wd):List dj:=match l with
 | []=>[]
 | w :: r=>cU 64 :: eQ w.s :: r.flatMap fun y=>[cU 43,eQ y.s]
theorem bP {c:UInt8} {r:List UInt8} (h:fm c.toNat=false):jC (c :: r):=fun x hx=>by
 simp only [List.head?_cons,oI] at hx;rw [<- hx];exact h
theorem AD {r:List UInt8} {L:List dj} (hr:jC r) (h:aP r L):∀ l:List Wd,(∀ w∈l,az w.s=true)->aP (gl l ++ r) (labK l ++ L)
 | [],_=>h
 | w :: l,hw=>by
  have key:∀ l:List Wd,(∀ w∈l,az w.s=true)->aP (((l.map ka).flatMap fun y=>[43] ++ y) ++ r) ((l.flatMap fun y=>[cU 43,eQ y.s]) ++ L)/\jC (((l.map ka).flatMap fun y=>[43] ++ y) ++ r):=by
   intro l
   induction l with
   | nil=>intro _;exact ⟨h,hr⟩
   | cons x l ih=>
    intro hx;obtain ⟨i1,i2⟩:=ih fun w hw=>hx w (eB _ hw);refine ⟨?_,bP (by decide)⟩;have:=aP.mark (m:=43) (by decide) (aP.name (hx x (by simp)) i2 i1);simpa [List.flatMap_cons,ka] using this
  obtain ⟨k1,k2⟩:=key l fun w Nx=>hw w (eB _ Nx);have:=aP.blank (aP.mark (m:=64) (by decide) (aP.name (hw w (by simp)) k2 k1));simpa [gl,joinT,labK,ka] using this
theorem AE {r:List UInt8} (hr:jC r) (l:List Wd):jC (gl l ++ r):=by
 cases l with
 | nil=>exact hr
 | cons w l=>exact bP (by decide)
theorem nQ (w:Wd) (l:List Wd):aw (w :: l)=⟨w.s,0⟩ :: aw l:=rfl
theorem qM (l:List Wd) (w:Wd):aw (l ++ [w])=aw l ++ [⟨w.s,0⟩]:=by
 induction l with
 | nil=>rfl
 | cons x l ih=>rw [List.cons_append,nQ,ih,nQ,List.cons_append]
theorem At.len {c:aq} {L:List dj} (h:At c L):L.length<=274877906944:=by
 have h1:=congrArg List.length h.l;rw [List.length_map,List.length_drop] at h1;have:=h.ok.len;omega
theorem AF {L:List dj} (hL:Dd [43] L):∀ (l:List Wd) (n:Nat) (acc:List Wd) (w:Wd) (c:aq),At c (eQ w.s :: ((l.flatMap fun y=>[cU 43,eQ y.s]) ++ L))->l.length < n->aw (pLab n acc c).1=aw acc ++ aw (w :: l)/\At (pLab n acc c).2 L
 | [],n,acc,w,c,h,hn=>by
  obtain ⟨n,rfl⟩:∃ m,n=m + 1:=⟨n - 1,by simp at hn;omega⟩;obtain ⟨h1,h2⟩:=h.name;have h2:At c.ai L:=h2;rw [pLab,h2.notM hL (by simp),af (by simp)];exact ⟨by rw [qM,h1];rfl,h2⟩
 | x :: l,n,acc,w,c,h,hn=>by
  obtain ⟨n,rfl⟩:∃ m,n=m + 1:=⟨n - 1,by simp at hn;omega⟩;obtain ⟨h1,h2⟩:=h.name;have h2:At c.ai (cU 43 :: eQ x.s :: ((l.flatMap fun y=>[cU 43,eQ y.s]) ++ L)):=h2;obtain ⟨h3,h4⟩:=h2.JZ;rw [pLab,aj h3];obtain ⟨i1,i2⟩:=AF hL l n (acc ++ [c.aH]) x _ h4 (by simp at hn;omega);refine ⟨?_,i2⟩;rw [i1,qM,h1,List.append_assoc];rfl
theorem AG {L:List dj} (hL:Dd [43] L) {l:List Wd} {c:aq} (hl:l ≠ []) (h:At c (labK l ++ L)):c.is 4 IY=true/\aw (dY c.step).1=aw l/\At (dY c.step).2 L:=by
 cases l with
 | nil=>exact absurd rfl hl
 | cons w l=>
  have h:At c (cU 64 :: eQ w.s :: ((l.flatMap fun y=>[cU 43,eQ y.s]) ++ L)):=h;obtain ⟨h1,h2⟩:=h.JZ;refine ⟨h1,?_⟩
  have hlen:l.length < bigN:=by
   have h3:=h2.len
   have h4:l.length<=(l.flatMap fun y=>[cU 43,eQ y.s]).length:=by
    have:∀ l:List Wd,l.length<=(l.flatMap fun y=>[cU 43,eQ y.s]).length:=by
     intro l
     induction l with
     | nil=>simp
     | cons x l ih=>simp [List.flatMap_cons] at ih ⊢;omega
    exact this l
   rw [List.length_cons,List.length_append] at h3;have:=dX;omega
  have:=AF hL l bigN [] w _ h2 hlen;simpa [aw,dY] using this
structure uP (p:Ph):Prop where
 uK:∀ w∈p.label,az w.s=true
 w0:0<=p.wide
 w1:fO p.wide
 c1:fO p.cn
 ck:(p.ck=0/\p.cn=0/\p.cl=[])∨p.ck=1∨p.ck=2∨(p.ck=3/\p.cn=0)
 cl:∀ w∈p.cl,az w.s=true
def mR (p:Ph):List dj:=if 0 < p.wide then [cU 35,xQ p.wide] else []
def dx (p:Ph):List dj:=
 if p.ck=1 then [cU 126,eQ fK,cU 40,xQ p.cn,cU 41]
 else if p.ck=2 then [cU 126,eQ gV,cU 40,xQ p.cn,cU 41]
 else if p.ck=3 then [cU 126,eQ jy] else []
def jD (p:Ph):List dj:=labK p.label ++ (mR p ++ (dx p ++ labK p.cl))
theorem AH {p:Ph} (h:uP p) {r:List UInt8} {L:List dj} (hr:jC r) (hc:aP r L):aP (ew p ++ r) (dx p ++ L)/\jC (ew p ++ r):=by
 unfold ew dx;split
 ·have:=aP.blank (aP.mark (m:=126) (by decide) (aP.name (w:=fK) (by decide) (bP (c:=40) (by decide)) (aP.mark (m:=40) (by decide) (aP.num h.c1 (bP (c:=41) (by decide)) (aP.mark (m:=41) (by decide) hc)))));exact ⟨by simpa [tx] using this,bP (by decide)⟩
 split
 ·have:=aP.blank (aP.mark (m:=126) (by decide) (aP.name (w:=gV) (by decide) (bP (c:=40) (by decide)) (aP.mark (m:=40) (by decide) (aP.num h.c1 (bP (c:=41) (by decide)) (aP.mark (m:=41) (by decide) hc)))));exact ⟨by simpa [tx] using this,bP (by decide)⟩
 split
 ·have:=aP.blank (aP.mark (m:=126) (by decide) (aP.name (w:=jy) (by decide) hr hc));exact ⟨by simpa [tx] using this,bP (by decide)⟩
 ·exact ⟨hc,hr⟩
theorem Gj {p:Ph} (h:uP p) {r:List UInt8} {L:List dj} (hr:jC r) (hc:aP r L):aP (jh p ++ r) (mR p ++ L)/\jC (jh p ++ r):=by
 unfold jh mR;split
 ·have:=aP.blank (aP.mark (m:=35) (by decide) (aP.num h.w1 hr hc));exact ⟨by simpa using this,bP (by decide)⟩
 ·exact ⟨hc,hr⟩
theorem ub {p:Ph} (h:uP p) {r:List UInt8} {L:List dj} (hr:jC r) (hc:aP r L):aP (dL p ++ r) (jD p ++ L)/\jC (dL p ++ r):=by
 have k1:=AD hr hc p.cl h.cl;have k2:=AH h (AE hr p.cl) k1;have k3:=Gj h k2.2 k2.1;have k4:=AD k3.2 k3.1 p.label h.uK;have k5:=AE k3.2 p.label;unfold dL jD;simp only [List.append_assoc] at k4 k5 ⊢;exact ⟨k4,k5⟩
theorem uc {p:Ph} (h:uP p) {L:List dj} (hL:Dd [64,35,126,43] L):Dd [64,35,43] (dx p ++ (labK p.cl ++ L)):=by
 have h0:Dd [64,35,43] L:=mi hL (by decide);have hk:=h.ck;unfold dx;split
 ·exact j5 (by decide)
 split
 ·exact j5 (by decide)
 split
 ·exact j5 (by decide)
 ·rcases hk with ⟨_,_,h3⟩ | h1 | h1 | ⟨h1,_⟩
  ·rw [h3];exact h0
  ·contradiction
  ·contradiction
  ·contradiction
theorem AJ {p:Ph} (h:uP p) {L:List dj} (hL:Dd [64,35,126,43] L):Dd [64,43] (mR p ++ (dx p ++ (labK p.cl ++ L))):=by
 unfold mR;split
 ·exact j5 (by decide)
 ·exact mi (uc h hL) (by decide)
theorem ue {z:Int} {L:List dj} {c:aq} (h:At c (cU 40 :: xQ z :: cU 41 :: L)):(gK c).1=z/\At (gK c).2 L:=by
 have h1:At (c.ae aN) (xQ z :: cU 41 :: L):=h.ae;obtain ⟨h2,h3⟩:=h1.num;exact ⟨h2,h3.ae⟩
theorem p7 {k n a:Int} {l:List Wd} {L:List dj} (hL:Dd [64,35,126,43] L) {c:aq} (h:At c (labK l ++ L)):(dV k n a c).1.k=k/\(dV k n a c).1.n=n/\aw (dV k n a c).1.l=aw l/\At (dV k n a c).2 L:=by
 unfold dV;by_cases hl:l=[]
 ·subst hl;have h:At c L:=h;have:c.is 4 IY=false:=h.notM hL (by simp);rw [this,af (by simp)];exact ⟨rfl,rfl,rfl,h⟩
 ·obtain ⟨h1,h2,h3⟩:=AG (mi hL (by decide)) hl h;rw [aj h1];exact ⟨rfl,rfl,h2,h3⟩
theorem AK {p:Ph} (h:uP p) (hk:p.ck≠0) {L:List dj} (hL:Dd [64,35,126,43] L) {c:aq} (hc:At c (dx p ++ (labK p.cl ++ L))) :
  c.is 4 pU=true/\(bI c.step).1.k=p.ck/\(bI c.step).1.n=p.cn/\aw (bI c.step).1.l=aw p.cl/\At (bI c.step).2 L:=by
 rcases h.ck with ⟨h0,_⟩ | h1 | h1 | ⟨h1,h2⟩
 ·exact absurd h0 hk
 ·have hc:At c (cU 126 :: eQ fK :: cU 40 :: xQ p.cn :: cU 41 :: (labK p.cl ++ L)):=by
   unfold dx at hc;rw [aj h1] at hc;exact hc
  obtain ⟨i1,i2⟩:=hc.JZ;obtain ⟨i3,i4⟩:=i2.Tb;refine ⟨i1,?_⟩;obtain ⟨n1,n2⟩:=ue i4;have:=p7 (k:=1) (n:=p.cn) (a:=c.step.aA.a) hL n2;unfold bI;rw [aj i3,n1,h1];exact this
 ·have hc:At c (cU 126 :: eQ gV :: cU 40 :: xQ p.cn :: cU 41 :: (labK p.cl ++ L)):=by
   unfold dx at hc;rw [af (by omega),aj h1] at hc;exact hc
  obtain ⟨i1,i2⟩:=hc.JZ;obtain ⟨i3,i4⟩:=i2.Tb;refine ⟨i1,?_⟩;obtain ⟨n1,n2⟩:=ue i4;have:=p7 (k:=2) (n:=p.cn) (a:=c.step.aA.a) hL n2;have i5:¬ c.step.is 1 fK=true:=by rw [i2.is];decide
  unfold bI;rw [af i5,aj i3,n1,h1];exact this
 ·have hc:At c (cU 126 :: eQ jy :: (labK p.cl ++ L)):=by
   unfold dx at hc;rw [af (by omega),af (by omega),aj h1] at hc;exact hc
  obtain ⟨i1,i2⟩:=hc.JZ;obtain ⟨i3,i4⟩:=i2.Tb;refine ⟨i1,?_⟩;have:=p7 (k:=3) (n:=0) (a:=c.step.aA.a) hL i4;have i5:¬ c.step.is 1 fK=true:=by rw [i2.is];decide
  have i6:¬ c.step.is 1 gV=true:=by rw [i2.is];decide
  unfold bI;rw [af i5,af i6,aj i3,h1,h2];exact this
theorem uf {p:Ph} (h:uP p) {L:List dj} (hL:Dd [64,35,126,43] L) (w:Wd) {c:aq} (hc:At c (jD p ++ L)) :
  bd (bB (iU w false) c).1=⟨⟨w.s,0⟩,false,aw p.label,p.wide,p.ck,p.cn,0,aw p.cl⟩/\At (bB (iU w false) c).2 L:=by
 have hc:At c (labK p.label ++ (mR p ++ (dx p ++ (labK p.cl ++ L)))):=by
  unfold jD at hc;simpa using hc
 have s1:∃ l1,oY (iU w false) c=(⟨w,false,l1,0,0,0,0,[]⟩,(oY (iU w false) c).2)/\aw l1=aw p.label/\At (oY (iU w false) c).2 (mR p ++ (dx p ++ (labK p.cl ++ L))):=by
  unfold oY;by_cases hl:p.label=[]
  ·rw [hl] at hc ⊢;have hc:At c (mR p ++ (dx p ++ (labK p.cl ++ L))):=hc;have:c.is 4 IY=false:=hc.notM (AJ h hL) (by simp);rw [this,af (by simp)];exact ⟨[],rfl,rfl,hc⟩
  ·obtain ⟨h1,h2,h3⟩:=AG (mi (AJ h hL) (by decide)) hl hc;rw [aj h1];exact ⟨_,rfl,h2,h3⟩
 obtain ⟨l1,e1,p1,a1⟩:=s1;unfold bB;rw [e1];generalize (oY (iU w false) c).2=c1 at a1;simp only
 have s2:tI ⟨w,false,l1,0,0,0,0,[]⟩ c1=(⟨w,false,l1,p.wide,0,0,0,[]⟩,(tI ⟨w,false,l1,0,0,0,0,[]⟩ c1).2)/\At (tI ⟨w,false,l1,0,0,0,0,[]⟩ c1).2 (dx p ++ (labK p.cl ++ L)):=by
  unfold tI;by_cases hl:0 < p.wide
  ·have a1:At c1 (cU 35 :: xQ p.wide :: (dx p ++ (labK p.cl ++ L))):=by
    unfold mR at a1;rw [aj hl] at a1;exact a1
   obtain ⟨i1,i2⟩:=a1.JZ;obtain ⟨i3,i4⟩:=i2.num;rw [aj i1];exact ⟨by rw [i3],i4⟩
  ·have a1:At c1 (dx p ++ (labK p.cl ++ L)):=by
    unfold mR at a1;rw [af hl] at a1;exact a1
   have:c1.is 4 Ad=false:=a1.notM (uc h hL) (by simp);rw [this,af (by simp)];have hw:p.wide=0:=by have:=h.w0;omega
   exact ⟨by rw [hw],a1⟩
 obtain ⟨e2,a2⟩:=s2;rw [e2];generalize (tI ⟨w,false,l1,0,0,0,0,[]⟩ c1).2=c2 at a2;simp only;unfold Ag;by_cases hk:p.ck=0
 ·rcases h.ck with ⟨_,h2,h3⟩ | h1 | h1 | ⟨h1,_⟩
  ·have a2:At c2 L:=by
    unfold dx at a2;rw [af (by omega),af (by omega),af (by omega),h3] at a2;exact a2
   have:c2.is 4 pU=false:=a2.notM hL (by simp);rw [this,af (by simp),hk,h2,h3];refine ⟨?_,a2⟩;show Ph.mk ⟨w.s,0⟩ false (aw l1) p.wide 0 0 0 []=_;rw [p1];rfl
  ·omega
  ·omega
  ·omega
 ·obtain ⟨i1,i2,i3,i4,i5⟩:=AK h hk hL a2;rw [aj i1];refine ⟨?_,i5⟩;show Ph.mk ⟨w.s,0⟩ false (aw l1) p.wide (bI c2.step).1.k (bI c2.step).1.n 0 (aw (bI c2.step).1.l)=_;rw [p1,i2,i3,i4]
structure ug {α γ:Type} (f:aq->List α->aq × List α) (ga:α->γ) (D:Nat) (text:List UInt8) (v:γ) (K:List dj):Prop where
 hd:∃ w K',K=eQ w :: K'
 LW:∀ r L,jC r->aP r L->aP (text ++ r) (K ++ L)
 read:∀ c L acc,At c (K ++ L)->Dd [64,35,126,43,40,60] L->c.d=D->∃ a,(f c acc).2=acc ++ [a]/\ga a=v/\At (f c acc).1 L/\(f c acc).1.d=D
theorem mj {α γ:Type} {f:aq->List α->aq × List α} {ga:α->γ} {D:Nat} {m:UInt8} (hm:m∈tx jw) (hs:fm m.toNat=false) (hx:∀ x ∈ [64,35,126,43,40,60],x≠m) (T5:m≠44) :
  ∀ (items:List (List UInt8 × γ)),(∀ b∈items,∃ K,ug f ga D b.1 b.2 K)->items ≠ [] ->
   ∃ K,(∃ w K',K=eQ w :: K')/\(∀ r L,aP r L->aP (joinT [] [44,32] (items.map (·.1)) ++ m :: r) (K ++ cU m :: L)) /\
    ∀ c L acc n,items.length<=n->At c (K ++ cU m :: L)->c.d=D->∃ us,(listF f ⟨#[m]⟩ n c acc).2=acc ++ us/\us.map ga=items.map (·.2)/\At (listF f ⟨#[m]⟩ n c acc).1 L/\(listF f ⟨#[m]⟩ n c acc).1.d=D
 | [],_,bM=>absurd rfl bM
 | [b],hb,_=>by
  obtain ⟨K,hK⟩:=hb b (by simp);refine ⟨K,hK.hd,fun r L hc=>?_,fun c L acc n hn h hd=>?_⟩
  ·have:=hK.LW (m :: r) (cU m :: L) (bP hs) (aP.mark hm hc);simpa [joinT] using this
  ·obtain ⟨n,rfl⟩:∃ k,n=k + 1:=⟨n - 1,by simp at hn;omega⟩;obtain ⟨a,e1,e2,e3,e4⟩:=hK.read c (cU m :: L) acc h (j5 hx) hd;obtain ⟨i1,i2⟩:=e3.JZ;rw [listF,aj h.f,aj i1];exact ⟨[a],e1,by simp [e2],i2,by rw [(aK.step _).d,e4]⟩
 | b :: b2 :: r',hb,_=>by
  obtain ⟨K,hK⟩:=hb b (by simp);obtain ⟨K2,_,k1,k2⟩:=mj hm hs hx T5 (b2 :: r') (fun x hx=>hb x (eB _ hx)) (by simp);refine ⟨K ++ cU 44 :: K2,by obtain ⟨w,K',e⟩:=hK.hd;exact ⟨w,_,by rw [e];rfl⟩,fun r L hc=>?_,fun c L acc n hn h hd=>?_⟩
  ·have:=hK.LW _ _ (bP (c:=44) (by decide)) (aP.mark (m:=44) (by decide) (aP.blank (k1 r L hc)));simpa [joinT,List.flatMap_cons] using this
  ·obtain ⟨n,rfl⟩:∃ k,n=k + 1:=⟨n - 1,by simp at hn;omega⟩;have h:At c (K ++ (cU 44 :: (K2 ++ cU m :: L))):=sU h;obtain ⟨a,e1,e2,e3,e4⟩:=hK.read c _ acc h (j5 (by decide)) hd
   have i1:(f c acc).1.is 4 ⟨#[m]⟩=false:=by
    rw [e3.is];have:¬ (⟨#[44]⟩:ByteArray)=⟨#[m]⟩:=fun he=>T5 (by simpa using he.symm);simp [cU,this]
   have e5:=e3.ae;obtain ⟨us,o1,o2,o3,o4⟩:=k2 _ L (f c acc).2 n (by simp at hn ⊢;omega) e5 (by rw [(aK.ae _ _).d,e4]);rw [listF,aj h.f,i1,af (by simp)];refine ⟨a :: us,?_,by simp only [List.map_cons] at o2 ⊢;rw [e2,o2],o3,o4⟩;rw [o1,e1,List.append_assoc];rfl
mutual
inductive De:Nat->Ty->Prop
 | bool {n:Nat} {h:Hd}:aT h=jz 1 0->De (n + 1) (.mk h .nil)
 | int {n:Nat} {h:Hd} {a b:Int}:aT h={ jz 2 0 with lo:=a,hi:=b }->fO a->fO b->De (n + 1) (.mk h .nil)
 | text {n:Nat} {h:Hd} {m:Int}:aT h={ jz 3 0 with most:=m }->fO m->De (n + 1) (.mk h .nil)
 | enum {n:Nat} {h:Hd} {l:List Wd}:aT h={ jz 4 0 with aD:=aw h.aD }->h.aD ≠ []->h.aD.length<=64->(∀ w∈h.aD,az w.s=true)->De (n + 1) (.mk h .nil)
 | list {n:Nat} {h:Hd} {m:Int} {p:Ph} {t:Ty}:aT h={ jz 5 0 with most:=m }->fO m->bd p=cj->De n t->De (n + 1) (.mk h (.cons p t .nil))
 | TY {n:Nat} {h:Hd} {p:Ph} {t:Ty}:aT h=jz 6 0->bd p=cj->De n t->De (n + 1) (.mk h (.cons p t .nil))
 | XW {n:Nat} {h:Hd} {ps:Pts}:aT h=jz 7 0->ps.len<=64->xR n false ps->De (n + 1) (.mk h ps)
 | XX {n:Nat} {h:Hd} {ps:Pts}:aT h=jz 8 0->ps.len<=64->ps ≠ .nil->xR n true ps->De (n + 1) (.mk h ps)
 | ref {n:Nat} {h:Hd} {w:ByteArray}:aT h={ jz 9 0 with name:=⟨w,0⟩ }->az w=true->De (n + 1) (.mk h .nil)
inductive xR:Nat->Bool->Pts->Prop
 | nil {n:Nat} {tag:Bool}:xR n tag .nil
 | bare {n:Nat} {p:Ph} {t:Ty} {r:Pts}:az p.name.s=true->p.bare=true->bd p=iU ⟨p.name.s,0⟩ true->stripT t=bO->xR n true r->xR n true (.cons p t r)
 | part {n:Nat} {tag:Bool} {p:Ph} {t:Ty} {r:Pts}:az p.name.s=true->uP p->p.bare=false->De n t->xR n tag r->xR n tag (.cons p t r)
end
def Bg (n:Nat) (t:Ty):Prop:=∃ K:List dj,(∀ r L,jC r->aP r L->aP (tyT t ++ r) (K ++ L))/\∀ c L,At c (K ++ L)->c.d + n=24->stripT (pKind n c).1=stripT t/\At (pKind n c).2 L/\(pKind n c).2.d=c.d
theorem qN {h:Hd} {k:Hd} (e:aT h=k):h.au=k.au/\h.lo=k.lo/\h.hi=k.hi/\h.most=k.most/\aw h.aD=k.aD/\h.name.s=k.name.s:=by
 subst e;exact ⟨rfl,rfl,rfl,rfl,rfl,rfl⟩
theorem At.deep {c:aq} {L:List dj} (h:At c L) (hd:c.d < 24):At c.deep L:=⟨h.ok.deep hd,h.f,h.l⟩
theorem At.leave {c:aq} {L:List dj} (h:At c L):At c.leave L:=⟨h.ok.leave,h.f,h.l⟩
theorem eS {n:Nat} {c:aq} {w:ByteArray} {L L':List dj} {v:Ty} (h:At c (eQ w :: L)) (hd:c.d + (n + 1)=24)
  (hb:∀ c',At c' L->c'.d + n=24->(bJ (pKind n) w c.aA.a c').1=true/\stripT (bJ (pKind n) w c.aA.a c').2.1=v/\At (bJ (pKind n) w c.aA.a c').2.2 L' /\ (bJ (pKind n) w c.aA.a c').2.2.d=c'.d) :
  stripT (pKind (n + 1) c).1=v/\At (pKind (n + 1) c).2 L' /\ (pKind (n + 1) c).2.d=c.d:=by
 have h1:=h.deep (by omega);have hp:c.deep.aA.s=w:=h1.aA.2.1;have ht:c.deep.tk 1=true:=(h1.tk (show (1:Int)≠0 by decide)).1;have h2:At c.deep.step L:=h1.step (by show (1:Int)≠0;decide);have Ka:c.deep.step.d=c.d + 1:=(aK.step c.deep).d;obtain ⟨b1,b2,b3,b4⟩:=hb c.deep.step h2 (by rw [Ka];omega);rw [pKind,aj ht,hp,aj b1];refine ⟨b2,b3.leave,?_⟩;show (bJ (pKind n) w c.aA.a c.deep.step).2.2.d - 1=c.d;rw [b4,Ka];rfl
theorem eA {c:aq} {s:ByteArray}:(c.ae s).d=c.d:=(aK.ae _ _).d
theorem LX {c:aq}:c.bq.d=c.d:=(aK.bq _).d
theorem named {c:aq}:c.ai.d=c.d:=(aK.ai _).d
theorem Gk {n:Nat} {h:Hd} (e:aT h=jz 1 0):Bg (n + 1) (.mk h .nil):=by
 obtain ⟨e1,e2,e3,e4,e5,e6⟩:=qN e;have hk:h.au=1:=e1;refine ⟨[eQ tA],fun r L hr hc=>?_,fun c L h0 hd=>?_⟩
 ·have:=aP.name (w:=tA) (by decide) hr hc;have ht:tyT (.mk h .nil)=tx tA:=by rw [tyT,ey,aj hk];all_goals rfl
  rw [ht];exact this
 ·refine eS h0 hd fun c' h' uF=>?_;have:bJ (pKind n) tA c.aA.a c'=(true,Eo 1 c.aA.a,c'):=by rw [bJ,aj rfl]
  rw [this];refine ⟨rfl,?_,h',rfl⟩;show Ty.mk _ _=Ty.mk _ _;rw [e];rfl
theorem JA {n:Nat} {h:Hd} {a b:Int} (e:aT h={ jz 2 0 with lo:=a,hi:=b }) (ha:fO a) (hb:fO b):Bg (n + 1) (.mk h .nil):=by
 obtain ⟨e1,e2,e3,e4,e5,e6⟩:=qN e;have hk:h.au=2:=e1;have e2:h.lo=a:=e2;have e3:h.hi=b:=e3;refine ⟨[eQ CH,cU 40,xQ a,LV,xQ b,cU 41],fun r L hr hc=>?_,fun c L h0 hd=>?_⟩
 ·have:=aP.name (w:=CH) (by decide) (bP (c:=40) (by decide)) (aP.mark (m:=40) (by decide) (aP.num ha (bP (c:=46) (by decide)) (aP.S8 (aP.num hb (bP (c:=41) (by decide)) (aP.mark (m:=41) (by decide) hc)))))
  have ht:tyT (.mk h .nil) ++ r=tx CH ++ (40 :: (eK a ++ (46 :: 46 :: (eK b ++ (41 :: r))))):=by
   rw [tyT,ey,af (by omega),aj hk,e2,e3];simp [tx]
  rw [ht];exact this
 ·refine eS h0 hd fun c' h' uF=>?_;have h':At c' (cU 40 :: xQ a :: LV :: xQ b :: cU 41 :: L):=h';obtain ⟨n1,n2⟩:=(h'.ae:At (c'.ae aN) _).num;obtain ⟨n3,n4⟩:=n2.Ta.num;have n5:At (((c'.ae aN).bq.ae fX).bq.ae aX) L:=n4.ae
  have:bJ (pKind n) CH c.aA.a c'=(true,.mk { jz 2 c.aA.a with lo:=(c'.ae aN).fA,hi:=((c'.ae aN).bq.ae fX).fA } .nil,((c'.ae aN).bq.ae fX).bq.ae aX):=by
   rw [bJ,af (by decide),aj rfl]
  rw [this,n1,n3];refine ⟨rfl,?_,n5,by rw [eA,LX,eA,LX,eA]⟩;show Ty.mk _ _=Ty.mk _ _;rw [e];rfl
theorem Gl {n:Nat} {h:Hd} {m:Int} (e:aT h={ jz 3 0 with most:=m }) (hm:fO m):Bg (n + 1) (.mk h .nil):=by
 obtain ⟨e1,e2,e3,e4,e5,e6⟩:=qN e;have hk:h.au=3:=e1;have e4:h.most=m:=e4;refine ⟨[eQ tC,cU 40,xQ m,cU 41],fun r L hr hc=>?_,fun c L h0 hd=>?_⟩
 ·have:=aP.name (w:=tC) (by decide) (bP (c:=40) (by decide)) (aP.mark (m:=40) (by decide) (aP.num hm (bP (c:=41) (by decide)) (aP.mark (m:=41) (by decide) hc)))
  have ht:tyT (.mk h .nil) ++ r=tx tC ++ (40 :: (eK m ++ (41 :: r))):=by
   rw [tyT,ey,af (by omega),af (by omega),aj hk,e4];simp [tx]
  rw [ht];exact this
 ·refine eS h0 hd fun c' h' uF=>?_;obtain ⟨n1,n2⟩:=ue (h':At c' (cU 40 :: xQ m :: cU 41 :: L))
  have:bJ (pKind n) tC c.aA.a c'=(true,.mk { jz 3 c.aA.a with most:=(gK c').1 } .nil,(gK c').2):=by
   rw [bJ,af (by decide),af (by decide),aj rfl]
  rw [this,n1];refine ⟨rfl,?_,n2,by show (((c'.ae aN).bq).ae aX).d=c'.d;rw [eA,LX,eA]⟩;show Ty.mk _ _=Ty.mk _ _;rw [e];rfl
theorem JB {n:Nat} {h:Hd} {w:ByteArray} (e:aT h={ jz 9 0 with name:=⟨w,0⟩ }) (hw:az w=true):Bg (n + 1) (.mk h .nil):=by
 obtain ⟨e1,e2,e3,e4,e5,e6⟩:=qN e;have hk:h.au=9:=e1;have e6:h.name.s=w:=e6;refine ⟨[eQ CJ,cU 40,eQ w,cU 41],fun r L hr hc=>?_,fun c L h0 hd=>?_⟩
 ·have:=aP.name (w:=CJ) (by decide) (bP (c:=40) (by decide)) (aP.mark (m:=40) (by decide) (aP.name hw (bP (c:=41) (by decide)) (aP.mark (m:=41) (by decide) hc)))
  have ht:tyT (.mk h .nil) ++ r=tx CJ ++ (40 :: (tx w ++ (41 :: r))):=by
   rw [tyT,ey,af (by omega),af (by omega),af (by omega),af (by omega),af (by omega),aj hk,e6];simp [tx]
  rw [ht];exact this
 ·refine eS h0 hd fun c' h' uF=>?_;have h':At c' (cU 40 :: eQ w :: cU 41 :: L):=h';obtain ⟨n1,n2⟩:=(h'.ae:At (c'.ae aN) _).name;have n3:At ((c'.ae aN).ai.ae aX) L:=n2.ae
  have:bJ (pKind n) CJ c.aA.a c'=(true,.mk { jz 9 c.aA.a with name:=(c'.ae aN).aH } .nil,(c'.ae aN).ai.ae aX):=by
   rw [bJ,af (by decide),af (by decide),af (by decide),af (by decide),af (by decide),af (by decide),af (by decide),af (by decide),aj rfl]
  rw [this];refine ⟨rfl,?_,n3,by rw [eA,named,eA]⟩;show Ty.mk _ _=Ty.mk _ _;rw [e];show Ty.mk { jz 9 0 with name:=⟨(c'.ae aN).aH.s,0⟩ } _=_;rw [n1]
theorem JC {n:Nat} {h:Hd} {p:Ph} {t:Ty} (e:aT h=jz 6 0) (hp:bd p=cj) (ih:Bg n t):Bg (n + 1) (.mk h (.cons p t .nil)):=by
 obtain ⟨e1,e2,e3,e4,e5,e6⟩:=qN e;have hk:h.au=6:=e1;obtain ⟨K,k1,k2⟩:=ih;refine ⟨eQ CI :: cU 40 :: (K ++ [cU 41]),fun r L hr hc=>?_,fun c L h0 hd=>?_⟩
 ·have:=aP.name (w:=CI) (by decide) (bP (c:=40) (by decide)) (aP.mark (m:=40) (by decide) (k1 _ _ (bP (c:=41) (by decide)) (aP.mark (m:=41) (by decide) hc)))
  have ht:tyT (.mk h (.cons p t .nil)) ++ r=tx CI ++ (40 :: (tyT t ++ (41 :: r))):=by
   rw [tyT,ey,af (by omega),af (by omega),af (by omega),af (by omega),aj hk,firstT];simp [tx]
  rw [ht];simpa using this
 ·refine eS (sU h0) hd fun c' h' uF=>?_;have h':At c' (cU 40 :: (K ++ (cU 41 :: L))):=sU h';have n1:At (c'.ae aN) (K ++ (cU 41 :: L)):=h'.ae;obtain ⟨i1,i2,i3⟩:=k2 _ _ n1 (by rw [eA];exact uF);have n2:At ((pKind n (c'.ae aN)).2.ae aX) L:=i2.ae
  have:bJ (pKind n) CI c.aA.a c'=(true,.mk (jz 6 c.aA.a) (.cons cj (pKind n (c'.ae aN)).1 .nil),(pKind n (c'.ae aN)).2.ae aX):=by
   rw [bJ,af (by decide),af (by decide),af (by decide),af (by decide),af (by decide),aj rfl]
  rw [this];refine ⟨rfl,?_,n2,by rw [eA,i3,eA]⟩;show Ty.mk _ (.cons _ (stripT _) .nil)=Ty.mk _ (.cons _ _ .nil);rw [e,hp,i1];rfl
theorem AL {n:Nat} {h:Hd} {m:Int} {p:Ph} {t:Ty} (e:aT h={ jz 5 0 with most:=m }) (hm:fO m) (hp:bd p=cj) (ih:Bg n t):Bg (n + 1) (.mk h (.cons p t .nil)):=by
 obtain ⟨e1,e2,e3,e4,e5,e6⟩:=qN e;have hk:h.au=5:=e1;have e4:h.most=m:=e4;obtain ⟨K,k1,k2⟩:=ih;refine ⟨eQ tE :: cU 40 :: (K ++ [cU 44,xQ m,cU 41]),fun r L hr hc=>?_,fun c L h0 hd=>?_⟩
 ·have:=aP.name (w:=tE) (by decide) (bP (c:=40) (by decide)) (aP.mark (m:=40) (by decide) (k1 _ _ (bP (c:=44) (by decide)) (aP.mark (m:=44) (by decide) (aP.blank (aP.num hm (bP (c:=41) (by decide)) (aP.mark (m:=41) (by decide) hc))))))
  have ht:tyT (.mk h (.cons p t .nil)) ++ r=tx tE ++ (40 :: (tyT t ++ (44 :: 32 :: (eK m ++ (41 :: r))))):=by
   rw [tyT,ey,af (by omega),af (by omega),af (by omega),aj hk,firstT,e4];simp [tx]
  rw [ht];simpa using this
 ·refine eS (sU h0) hd fun c' h' uF=>?_;have h':At c' (cU 40 :: (K ++ (cU 44 :: xQ m :: cU 41 :: L))):=sU h';have n1:At (c'.ae aN) (K ++ (cU 44 :: xQ m :: cU 41 :: L)):=h'.ae;obtain ⟨i1,i2,i3⟩:=k2 _ _ n1 (by rw [eA];exact uF);obtain ⟨n2,n3⟩:=(i2.ae:At ((pKind n (c'.ae aN)).2.ae cB) _).num;have n4:At (((pKind n (c'.ae aN)).2.ae cB).bq.ae aX) L:=n3.ae
  have:bJ (pKind n) tE c.aA.a c'=(true,.mk { jz 5 c.aA.a with most:=((pKind n (c'.ae aN)).2.ae cB).fA } (.cons cj (pKind n (c'.ae aN)).1 .nil),((pKind n (c'.ae aN)).2.ae cB).bq.ae aX):=by
   rw [bJ,af (by decide),af (by decide),af (by decide),af (by decide),aj rfl]
  rw [this,n2];refine ⟨rfl,?_,n4,by rw [eA,LX,eA,i3,eA]⟩;show Ty.mk _ (.cons _ (stripT _) .nil)=Ty.mk _ (.cons _ _ .nil);rw [e,hp,i1];rfl
theorem Gm {w:ByteArray} (hw:az w=true) (D:Nat):ug dP (fun w:Wd=>(⟨w.s,0⟩:Wd)) D (tx w) ⟨w,0⟩ [eQ w] where
 hd:=⟨w,[],rfl⟩
 LW r L hr hc:=aP.name hw hr hc
 read c L acc h _ hd:=by
  obtain ⟨h1,h2⟩:=(h:At c (eQ w :: L)).name;exact ⟨c.aH,rfl,by rw [h1],h2,by show c.ai.d=D;rw [named,hd]⟩
def Pw (l:List Wd):List (List UInt8 × Wd):=l.map fun w=>(tx w.s,(⟨w.s,0⟩:Wd))
theorem LY (l:List Wd):(Pw l).map (·.1)=l.map ka:=by simp [Pw,ka]
theorem LZ (l:List Wd):(Pw l).map (·.2)=aw l:=by simp [Pw,aw]
theorem ui {m:UInt8} (hm:m∈tx jw) (hs:fm m.toNat=false) (hx:∀ x ∈ [64,35,126,43,40,60],x≠m) (T5:m≠44) {l:List Wd} (hl:l ≠ []) (hw:∀ w∈l,az w.s=true) (D:Nat) :
  ∃ K,(∃ w K',K=eQ w :: K')/\(∀ r L,aP r L->aP (joinT [] [44,32] (l.map ka) ++ m :: r) (K ++ cU m :: L)) /\
   ∀ c L n,l.length<=n->At c (K ++ cU m :: L)->c.d=D->aw (listF dP ⟨#[m]⟩ n c []).2=aw l/\At (listF dP ⟨#[m]⟩ n c []).1 L/\(listF dP ⟨#[m]⟩ n c []).1.d=D:=by
 obtain ⟨K,k0,k1,k2⟩:=mj (f:=dP) (ga:=fun w:Wd=>(⟨w.s,0⟩:Wd)) (D:=D) hm hs hx T5 (Pw l) (fun b hb=>by
  obtain ⟨w,S9,rfl⟩:=List.mem_map.1 hb
  exact ⟨_,Gm (hw w S9) D⟩) (by simpa [Pw] using hl)
 rw [LY] at k1;refine ⟨K,k0,k1,fun c L n hn h hd=>?_⟩;obtain ⟨us,u1,u2,u3,u4⟩:=k2 c L [] n (by simpa [Pw] using hn) h hd;rw [LZ] at u2;rw [u1];exact ⟨by simpa [aw] using u2,u3,u4⟩
theorem Gn {n:Nat} {h:Hd} (e:aT h={ jz 4 0 with aD:=aw h.aD }) (bM:h.aD ≠ []) (hlen:h.aD.length<=64) (hw:∀ w∈h.aD,az w.s=true):Bg (n + 1) (.mk h .nil):=by
 obtain ⟨e1,e2,e3,e4,e5,e6⟩:=qN e;have hk:h.au=4:=e1;obtain ⟨K,_,k1,k2⟩:=ui (m:=41) (by decide) (by decide) (by decide) (by decide) bM hw (24 - n);have hb:=dX;refine ⟨eQ tD :: cU 40 :: (K ++ [cU 41]),fun r L hr hc=>?_,fun c L h0 hd=>?_⟩
 ·have:=aP.name (w:=tD) (by decide) (bP (c:=40) (by decide)) (aP.mark (m:=40) (by decide) (k1 r L hc))
  have ht:tyT (.mk h .nil) ++ r=tx tD ++ (40 :: (joinT [] [44,32] (h.aD.map ka) ++ 41 :: r)):=by
   rw [tyT,ey,af (by omega),af (by omega),af (by omega),af (by omega),af (by omega),af (by omega),af (by omega),af (by omega)];simp [tx]
  rw [ht];simpa using this
 ·refine eS (sU h0) hd fun c' h' uF=>?_;have h':At c' (cU 40 :: (K ++ (cU 41 :: L))):=sU h';have n1:At (c'.ae aN) (K ++ (cU 41 :: L)):=h'.ae;obtain ⟨i1,i2,i3⟩:=k2 _ L bigN (by omega) n1 (by rw [eA];omega)
  have:bJ (pKind n) tD c.aA.a c'=(true,.mk { jz 4 c.aA.a with aD:=(listF dP aX bigN (c'.ae aN) []).2 } .nil,(listF dP aX bigN (c'.ae aN) []).1):=by
   rw [bJ,af (by decide),af (by decide),af (by decide),aj rfl]
  rw [this];refine ⟨rfl,?_,i2,by show (listF dP aX bigN (c'.ae aN) []).1.d=c'.d;rw [i3];omega⟩;show Ty.mk _ _=Ty.mk _ _;rw [e];show Ty.mk { jz 4 0 with aD:=aw (listF dP aX bigN (c'.ae aN) []).2 } .nil=_;rw [i1];rfl
def P4 (p:Ph × Ty):Ph × Ty:=(bd p.1,stripT p.2)
def itP (tag:Bool):Pts->List (List UInt8 × (Ph × Ty))
 | .nil=>[]
 | .cons p t r=>(fJ tag p (tyT t),(bd p,stripT t)) :: itP tag r
theorem EI (tag:Bool):∀ ps:Pts,(itP tag ps).map (·.1)=ik tag ps
 | .nil=>rfl
 | .cons p t r=>by rw [itP,List.map_cons,EI tag r,ik]
theorem EJ (tag:Bool):∀ ps:Pts,(itP tag ps).length=ps.len
 | .nil=>rfl
 | .cons p t r=>by rw [itP,List.length_cons,EJ tag r,Pts.len]
theorem EK (tag:Bool):∀ ps:Pts,mkPts ((itP tag ps).map (·.2))=stripP ps
 | .nil=>rfl
 | .cons p t r=>by rw [itP,List.map_cons,mkPts,EK tag r,stripP]
theorem AM:∀ l:List (Ph × Ty),stripP (mkPts l)=mkPts (l.map P4)
 | []=>rfl
 | p :: r=>by rw [mkPts,stripP,AM r,List.map_cons,mkPts];all_goals rfl
theorem AN {p:Ph} (hb:p.bare=false) {w:ByteArray} (hw:w=p.name.s):(⟨⟨w,0⟩,false,aw p.label,p.wide,p.ck,p.cn,0,aw p.cl⟩:Ph)=bd p:=by
 subst hw;obtain ⟨nm,bare,lb,wd,ck,cn,ca,cl⟩:=p;simp only at hb;subst hb;rfl
theorem Gp {n:Nat} {tag:Bool} {p:Ph} {t:Ty} (hn:az p.name.s=true) (hm:uP p) (hb:p.bare=false) (ih:Bg n t) (Wu:n<=24):∃ K,ug (jA (pKind n) tag) P4 (24 - n) (fJ tag p (tyT t)) (bd p,stripT t) K:=by
 obtain ⟨K,k1,k2⟩:=ih
 cases tag with
 | false=>
  refine ⟨eQ p.name.s :: cU 58 :: (K ++ jD p),⟨_,_,rfl⟩,fun r L hr hc=>?_,fun c L acc h hL hd=>?_⟩
  ·obtain ⟨m1,m2⟩:=ub hm hr hc;have:=aP.name hn (bP (c:=58) (by decide)) (aP.mark (m:=58) (by decide) (aP.blank (k1 _ _ m2 m1)))
   have ht:fJ false p (tyT t) ++ r=tx p.name.s ++ (58 :: 32 :: (tyT t ++ (dL p ++ r))):=by
    rw [fJ,hb];simp
   rw [ht];simpa using this
  ·have h:At c (eQ p.name.s :: cU 58 :: (K ++ (jD p ++ L))):=sU h;obtain ⟨n1,n2⟩:=h.name;have n3:At (c.ai.ae b9) (K ++ (jD p ++ L)):=n2.ae;obtain ⟨i1,i2,i3⟩:=k2 _ _ n3 (by rw [eA,named];omega);obtain ⟨j1,j2⟩:=uf hm (mi hL (by decide)) c.aH i2;refine ⟨(iV (pKind n) c).1,rfl,?_,j2,?_⟩
   ·show (bd (bB (iU c.aH false) (pKind n (c.ai.ae b9)).2).1,stripT (pKind n (c.ai.ae b9)).1)=_;rw [j1,i1,AN hb n1]
   ·show (bB (iU c.aH false) (pKind n (c.ai.ae b9)).2).2.d=_;rw [(gx (Sm.self i2.ok)).st.d,i3,eA,named,hd]
 | true=>
  refine ⟨eQ p.name.s :: cU 40 :: (K ++ (cU 41 :: jD p)),⟨_,_,rfl⟩,fun r L hr hc=>?_,fun c L acc h hL hd=>?_⟩
  ·obtain ⟨m1,m2⟩:=ub hm hr hc;have:=aP.name hn (bP (c:=40) (by decide)) (aP.mark (m:=40) (by decide) (k1 _ _ (bP (c:=41) (by decide)) (aP.mark (m:=41) (by decide) m1)))
   have ht:fJ true p (tyT t) ++ r=tx p.name.s ++ (40 :: (tyT t ++ (41 :: (dL p ++ r)))):=by
    rw [fJ,hb];simp
   rw [ht];simpa using this
  ·have h:At c (eQ p.name.s :: cU 40 :: (K ++ (cU 41 :: (jD p ++ L)))):=sU h;obtain ⟨n1,n2⟩:=h.name;obtain ⟨n3,n4⟩:=n2.JZ;obtain ⟨i1,i2,i3⟩:=k2 _ _ n4 (by rw [(aK.step _).d,named];omega);have n5:At ((pKind n c.ai.step).2.ae aX) (jD p ++ L):=i2.ae;obtain ⟨j1,j2⟩:=uf hm (mi hL (by decide)) c.aH n5;have e:gW (pKind n) c=(((bB (iU c.aH false) ((pKind n c.ai.step).2.ae aX)).1,(pKind n c.ai.step).1),(bB (iU c.aH false) ((pKind n c.ai.step).2.ae aX)).2):=by rw [gW,aj n3]
   refine ⟨(gW (pKind n) c).1,rfl,?_,by show At (gW (pKind n) c).2 L;rw [e];exact j2,?_⟩
   ·rw [e];show (bd (bB (iU c.aH false) ((pKind n c.ai.step).2.ae aX)).1,stripT (pKind n c.ai.step).1)=_;rw [j1,i1,AN hb n1]
   ·show (gW (pKind n) c).2.d=_;rw [e];show (bB (iU c.aH false) ((pKind n c.ai.step).2.ae aX)).2.d=_;rw [(gx (Sm.self n5.ok)).st.d,eA,i3,(aK.step _).d,named,hd]
theorem Gq {n:Nat} {p:Ph} {t:Ty} (hn:az p.name.s=true) (hb:p.bare=true) (hp:bd p=iU ⟨p.name.s,0⟩ true) (ht:stripT t=bO):∃ K,ug (jA (pKind n) true) P4 (24 - n) (fJ true p (tyT t)) (bd p,stripT t) K:=by
 refine ⟨[eQ p.name.s],⟨_,_,rfl⟩,fun r L hr hc=>?_,fun c L acc h hL hd=>?_⟩
 ·have ht:fJ true p (tyT t)=tx p.name.s:=by rw [fJ,hb];simp
  rw [ht];exact aP.name hn hr hc
 ·obtain ⟨n1,n2⟩:=(h:At c (eQ p.name.s :: L)).name;have n3:c.ai.is 4 aN=false:=n2.notM hL (by simp);have e:gW (pKind n) c=((iU c.aH true,bO),c.ai):=by rw [gW,n3,af (by simp)]
  refine ⟨(gW (pKind n) c).1,rfl,?_,by show At (gW (pKind n) c).2 L;rw [e];exact n2,by show (gW (pKind n) c).2.d=_;rw [e];show c.ai.d=_;rw [named,hd]⟩;rw [e,hp,ht];show (bd (iU c.aH true),stripT bO)=_;have:bd (iU c.aH true)=iU ⟨c.aH.s,0⟩ true:=rfl;rw [this,n1];rfl
theorem At.EL {c:aq} {w:ByteArray} {L:List dj} (h:At c (eQ w :: L)) (s:ByteArray):c.is 4 s=false:=by
 rw [h.is];rfl
theorem AO {n:Nat} {tag:Bool} {h:Hd} {ps:Pts} (k:Int) (Tc:k=if tag=true then 8 else 7) (e:aT h=jz k 0) (hlen:ps.len<=64) (bM:tag=true->ps ≠ .nil) (Wu:n < 24) (ih:∀ b∈itP tag ps,∃ K,ug (jA (pKind n) tag) P4 (24 - n) b.1 b.2 K):Bg (n + 1) (.mk h ps):=by
 obtain ⟨e1,e2,e3,e4,e5,e6⟩:=qN e;have hk:h.au=k:=e1;have hb:=dX
 have Wv:decide (h.au=8)=tag:=by
  rw [hk,Tc];cases tag<;>rfl
 obtain ⟨wd,nz⟩:∃ wd:ByteArray,wd=if tag=true then tF else IZ:=⟨_,rfl⟩
 have hT:∀ r,tyT (.mk h ps) ++ r=tx wd ++ (123 :: (joinT [] [44,32] (ik tag ps) ++ 125 :: r)):=fun r=>by
  rw [tyT,Wv];generalize ik tag ps=l;generalize firstT ps=u;subst nz;unfold ey;rw [hk,Tc];cases tag<;>simp [tx]
 have hB:∀ (a:Int) (c:aq),bJ (pKind n) wd a c=(true,.mk (jz k a) (mkPts (cd (pKind n) tag c).1),(cd (pKind n) tag c).2):=fun a c=>by
  subst nz Tc
  cases tag with
  | true=>rw [aj rfl,bJ,af (by decide),af (by decide),af (by decide),af (by decide),af (by decide),af (by decide),af (by decide),aj rfl,aj rfl]
  | false=>rw [af (by simp),bJ,af (by decide),af (by decide),af (by decide),af (by decide),af (by decide),af (by decide),aj rfl,af (by simp)]
 have PY:az wd=true:=by
  subst nz;cases tag<;>decide
 by_cases KJ:ps = .nil
 ·subst KJ
  have Ww:tag=false:=by
   cases tag with
   | false=>rfl
   | true=>exact absurd rfl (bM rfl)
  subst Ww;refine ⟨[eQ wd,cU 123,cU 125],fun r L hr hc=>?_,fun c L h0 hd=>?_⟩
  ·rw [hT];exact aP.name PY (bP (c:=123) (by decide)) (aP.mark (m:=123) (by decide) (aP.mark (m:=125) (by decide) hc))
  ·refine eS h0 hd fun c' h' uF=>?_;have n1:At (c'.ae bm) (cU 125 :: L):=(h':At c' (cU 123 :: cU 125 :: L)).ae;obtain ⟨n2,n3⟩:=n1.JZ
   have:cd (pKind n) false c'=([],(c'.ae bm).step):=by
    unfold cd;rw [n2];rfl
   rw [hB,this];refine ⟨rfl,?_,n3,by show (c'.ae bm).step.d=_;rw [(aK.step _).d,eA]⟩;show Ty.mk _ _=Ty.mk _ _;rw [e];rfl
 ·obtain ⟨K,⟨w0,K0,hK0⟩,k1,k2⟩:=mj (f:=jA (pKind n) tag) (ga:=P4) (D:=24 - n) (m:=125) (by decide) (by decide) (by decide) (by decide) (itP tag ps) ih (by
   cases ps with
   | nil=>exact absurd rfl KJ
   | cons p t r=>simp [itP])
  rw [EI] at k1;refine ⟨eQ wd :: cU 123 :: (K ++ [cU 125]),fun r L hr hc=>?_,fun c L h0 hd=>?_⟩
  ·rw [hT];have:=aP.name PY (bP (c:=123) (by decide)) (aP.mark (m:=123) (by decide) (k1 r L hc));simpa using this
  ·refine eS (sU h0) hd fun c' h' uF=>?_;have h':At c' (cU 123 :: (K ++ (cU 125 :: L))):=sU h';have n1:At (c'.ae bm) (K ++ (cU 125 :: L)):=h'.ae
   have n2:(c'.ae bm).is 4 aU=false:=by
    rw [hK0] at n1;exact n1.EL _
   obtain ⟨us,u1,u2,u3,u4⟩:=k2 _ L [] bigN (by rw [EJ];omega) n1 (by rw [eA];omega)
   have:cd (pKind n) tag c'=(us,(listF (jA (pKind n) tag) aU bigN (c'.ae bm) []).1):=by
    unfold cd;rw [n2,Bool.and_false,af (by simp)];exact Prod.ext (by rw [<- List.nil_append us];exact u1) rfl
   rw [hB,this];refine ⟨rfl,?_,u3,by show (listF (jA (pKind n) tag) aU bigN (c'.ae bm) []).1.d=_;rw [u4];omega⟩;show Ty.mk _ (stripP (mkPts us))=Ty.mk _ _;rw [e,AM,u2,EK];rfl
mutual
theorem oR:∀ (t:Ty) (n:Nat),n<=24->De n t->Bg n t
 | .mk h ps,n,hn,hp=>by
  cases hp with
  | bool e=>exact Gk e
  | int e a b=>exact JA e a b
  | text e m=>exact Gl e m
  | enum e a b c=>exact Gn e a b c
  | @list _ _ _ p t e m hp ht=>exact AL e m hp (oR t _ (by omega) ht)
  | @TY _ _ p t e hp ht=>exact JC e hp (oR t _ (by omega) ht)
  | XW e hl KJ=>exact AO 7 rfl e hl (fun h=>by cases h) (by omega) (ml ps _ _ (by omega) KJ)
  | XX e hl bM KJ=>exact AO 8 rfl e hl (fun _=>bM) (by omega) (ml ps _ _ (by omega) KJ)
  | ref e w=>exact JB e w
theorem ml:∀ (ps:Pts) (n:Nat) (tag:Bool),n<=24->xR n tag ps->∀ b∈itP tag ps,∃ K,ug (jA (pKind n) tag) P4 (24 - n) b.1 b.2 K
 | .nil,n,tag,hn,hp=>fun b hb=>by cases hb
 | .cons p t r,n,tag,hn,hp=>fun b hb=>by
  cases hp with
  | bare h1 h2 h3 h4 hr=>
   rcases fp hb with rfl | hb
   ·exact Gq h1 h2 h3 h4
   ·exact ml r _ _ hn hr b hb
  | part h1 h2 h3 ht hr=>
   rcases fp hb with rfl | hb
   ·exact Gp h1 h2 h3 (oR t _ hn ht) hn
   ·exact ml r _ _ hn hr b hb
end
theorem fw {l:List Wd} (h:sameWds l []=true):l=[]:=by
 cases l with
 | nil=>rfl
 | cons x r=>simp [sameWds] at h
theorem AP:∀ {l:List Wd},(badWd l).1=0->∀ w∈l,az w.s=true
 | [],_,w,hw=>by cases hw
 | x :: r,h,w,hw=>by
  unfold badWd at h;split at h
  ·rename_i hx;rcases fp hw with rfl | hw
   ·exact hx
   ·exact AP h w hw
  ·exact absurd h (by simp)
theorem wK {l:List Wd} (h:(dg l).1=0):∀ w∈l,az w.s=true:=by
 unfold dg at h;split at h
 ·exact AP h
 ·exact absurd h (by simp)
theorem uj {l:List Wd} {i:Nat} {x:Wd} (h:cS l i x=0):az x.s=true:=by
 unfold cS at h
 grind
theorem AQ {all:List Wd}:∀ {l:List Wd} {i:Nat},(enumL all i l).1=0->∀ w∈l,az w.s=true
 | [],_,_,w,hw=>by cases hw
 | x :: r,i,h,w,hw=>by
  unfold enumL at h;split at h
  ·rename_i hx;exact absurd h hx
  ·rename_i hx;rcases fp hw with rfl | hw
   ·exact uj (sU hx)
   ·exact AQ h w hw
theorem Gr {p:Ph} (h:(eJ p).1=0) (h1:fO p.wide) (h2:fO p.cn):uP p:=by
 unfold eJ at h;split at h
 ·exact absurd h (by simp)
 rename_i hw;split at h
 ·rename_i hl;exact absurd h hl
 rename_i hl;have Td:=wK (l:=p.label) (sU hl);unfold bW at h;split at h
 ·rename_i hk;split at h
  ·rename_i hz;exact ⟨Td,by omega,h1,h2,.inl ⟨hk,hz.1,hz.2⟩,by rw [hz.2];intro w hw;cases hw⟩
  ·exact absurd h (by simp)
 rename_i hk;split at h
 ·exact absurd h (by simp)
 rename_i GN;split at h
 ·exact absurd h (by simp)
 rename_i V5;exact ⟨Td,by omega,h1,h2,by omega,wK h⟩
theorem L0 {p:Ph} (hn:p.name.s=aY) (h:cu p cj=true):bd p=cj:=by
 obtain ⟨⟨ns,na⟩,bare,lb,wide,ck,cn,ca,cl⟩:=p;simp only [cu,cj,aZ,decide_eq_true_eq,beq_iff_eq] at h hn;obtain ⟨⟨⟨⟨⟨h1,q2⟩,q3⟩,q4⟩,q5⟩,q6⟩:=h;have h2:wide=0:=of_decide_eq_true q2;have h4:ck=0:=of_decide_eq_true q4;have h5:cn=0:=of_decide_eq_true q5;have h3:=fw q3;have h6:=fw q6;subst hn h1 h2 h3 h4 h5 h6;rfl
theorem L4 {p:Ph} (h:cu p kx=true):p.bare=true/\bd p=iU ⟨p.name.s,0⟩ true:=by
 obtain ⟨⟨ns,na⟩,bare,lb,wide,ck,cn,ca,cl⟩:=p;simp only [cu,kx,aZ,decide_eq_true_eq,beq_iff_eq] at h;obtain ⟨⟨⟨⟨⟨h1,q2⟩,q3⟩,q4⟩,q5⟩,q6⟩:=h;have h2:wide=0:=of_decide_eq_true q2;have h4:ck=0:=of_decide_eq_true q4;have h5:cn=0:=of_decide_eq_true q5;have h3:=fw q3;have h6:=fw q6;subst h1 h2 h3 h4 h5 h6;exact ⟨rfl,rfl⟩
theorem L5 {t:Ty} (h:sameTy t bO=true):stripT t=bO:=by
 obtain ⟨⟨au,dR,lo,hi,most,aD,⟨ns,na⟩⟩,ps⟩:=t;simp only [bO,BT,sameTy,gk,aZ,decide_eq_true_eq] at h;obtain ⟨⟨⟨⟨⟨⟨h1,h2⟩,h3⟩,h4⟩,h5⟩,h6⟩,h7⟩:=h;have h6:=fw h6
 cases ps with
 | nil=>
  subst h1 h2 h3 h4 h5 h6;rfl
 | cons p t r=>simp [samePts] at h7
theorem Gs {h:Hd} {ps:Pts} (ho:nk (.mk h ps)=true) :
  aT h=⟨h.au,0,if h.au=2 then h.lo else 0,if h.au=2 then h.hi else 0,if h.au=3∨h.au=5 then h.most else 0,if h.au=4 then aw h.aD else [],if h.au=9 then ⟨h.name.s,0⟩ else ⟨aY,0⟩⟩/\(¬ (4 < h.au/\h.au < 9)->ps = .nil):=by
 obtain ⟨au,dR,lo,hi,most,aD,⟨ns,na⟩⟩:=h;simp only [nk,mask,xn,sameTy,gk,aZ,decide_eq_true_eq] at ho;obtain ⟨⟨⟨⟨⟨⟨h1,h2⟩,h3⟩,h4⟩,h5⟩,h6⟩,h7⟩:=ho;refine ⟨?_,fun hn=>?_⟩
 ·have e6:aw aD=if au=4 then aw aD else []:=by
   by_cases hk:au=4
   ·rw [aj hk]
   ·rw [af hk] at h6 ⊢;rw [fw h6];rfl
  have e5:(⟨ns,0⟩:Wd)=if au=9 then ⟨ns,0⟩ else ⟨aY,0⟩:=by
   by_cases hk:au=9
   ·rw [aj hk]
   ·rw [af hk] at h5 ⊢;rw [h5]
  show Hd.mk au 0 lo hi most (aw aD) ⟨ns,0⟩=_;simp only;rw [<- h2,<- h3,<- h4,<- e6,<- e5]
 ·simp only at hn;rw [af hn] at h7
  cases ps with
  | nil=>rfl
  | cons p t r=>simp [samePts] at h7
mutual
theorem Df:∀ (t:Ty) (depth m:Int) (n:Nat),rngT t->depth + n=25->(wrong t depth m).1.1=0->De n t
 | .mk h ps,depth,m,n,hr,hd,he=>by
  simp only [rngT] at hr;obtain ⟨r1,r2,r3,r4⟩:=hr;simp only [wrong] at he;by_cases c0:24 < depth
  ·rw [aj c0] at he;simp at he
  rw [af c0] at he;obtain ⟨n,rfl⟩:∃ k,n=k + 1:=⟨n - 1,by omega⟩;have i1:=Gt h ps depth (m + 1) n r4 (by omega);have i2:=fun hk=>xS h.au (pNames ps) ps 0 depth (m + 1) n r4 (by omega) hk;by_cases c1:512 < m + 1
  ·rw [aj c1] at he;simp at he
  rw [af c1] at he;by_cases c2:h.au < 1∨9 < h.au
  ·rw [aj c2] at he;simp at he
  rw [af c2] at he;by_cases c3:nk (.mk h ps)=false
  ·rw [aj c3] at he;simp at he
  rw [af c3] at he;obtain ⟨o1,o2⟩:=Gs (by simpa using c3:nk (.mk h ps)=true);by_cases c4:(h.au=2/\h.hi < h.lo)∨(h.au=3/\(h.most < 0∨4096 < h.most))
  ·rw [aj c4] at he;simp at he
  rw [af c4] at he;by_cases c5:h.au=9/\az h.name.s=false
  ·rw [aj c5] at he;simp at he
  rw [af c5] at he;have hc:h.au=1∨h.au=2∨h.au=3∨h.au=4∨h.au=5∨h.au=6∨h.au=7∨h.au=8∨h.au=9:=by omega
  generalize G7:h.au=k at *;rcases hc with rfl | rfl | rfl | rfl | rfl | rfl | rfl | rfl | rfl
  ·obtain rfl:=o2 (by omega);exact .bool o1
  ·obtain rfl:=o2 (by omega);exact .int o1 r1 r2
  ·obtain rfl:=o2 (by omega);exact .text o1 r3
  ·obtain rfl:=o2 (by omega);rw [aj rfl] at he;unfold jv at he;split at he
   ·exact absurd he (by simp)
   rename_i bM;split at he
   ·exact absurd he (by simp)
   rename_i hlen;exact .enum (l:=[]) o1 bM (by omega) (AQ he)
  ·rw [af (by omega),aj (.inl rfl)] at he;exact (i1 he).elim fun p h=>h.elim fun t ⟨e1,e2,e3⟩=>by subst e1;exact .list o1 r3 e2 e3
  ·rw [af (by omega),aj (.inr rfl)] at he;exact (i1 he).elim fun p h=>h.elim fun t ⟨e1,e2,e3⟩=>by subst e1;exact .TY o1 e2 e3
  ·rw [af (by omega),af (by omega),aj (.inl rfl),af (by omega)] at he;split at he
   ·exact absurd he (by simp)
   rename_i hl;exact .XW o1 (by omega) (i2 (.inl rfl) he)
  ·rw [af (by omega),af (by omega),aj (.inr rfl)] at he;split at he
   ·exact absurd he (by simp)
   rename_i BR;split at he
   ·exact absurd he (by simp)
   rename_i hl;exact .XX o1 (by omega) (fun KJ=>BR ⟨rfl,by rw [KJ];rfl⟩) (i2 (.inr rfl) he)
  ·obtain rfl:=o2 (by omega);exact .ref o1 (sU c5)
theorem Gt:∀ (h:Hd) (ps:Pts) (depth m:Int) (n:Nat),rngP ps->depth + (n + 1)=25->(wrongOne h ps depth m).1.1=0->∃ p t,ps = .cons p t .nil/\bd p=cj/\De n t
 | h,.cons p t .nil,depth,m,n,hr,hd,he=>by
  simp only [rngP] at hr;simp only [wrongOne] at he;by_cases c0:p.name.s≠aY∨cu p cj=false
  ·rw [aj c0] at he;simp at he
  rw [af c0] at he;by_cases c1:h.most < 0∨1024 < h.most
  ·rw [aj c1] at he;simp at he
  rw [af c1] at he;refine ⟨p,t,rfl,L0 ?_ ?_,Df t (depth + 1) m n hr.2.2.1 (by omega) he⟩
  ·exact Classical.byContradiction fun hn=>c0 (.inl hn)
  ·exact by cases hb:cu p cj with
    | true=>rfl
    | false=>exact absurd (.inr hb) c0
 | h,.nil,depth,m,n,hr,hd,he=>by simp [wrongOne] at he
 | h,.cons p t (.cons q u r),depth,m,n,hr,hd,he=>by simp [wrongOne] at he
theorem xS:∀ (au:Int) (all:List Wd) (ps:Pts) (i:Nat) (depth m:Int) (n:Nat),rngP ps->depth + (n + 1)=25->(au=7∨au=8)->(wrongPts au all i ps depth m).1.1=0->xR n (decide (au=8)) ps
 | au,all,.nil,i,depth,m,n,hr,hd,hk,he=>.nil
 | au,all,.cons p t r,i,depth,m,n,hr,hd,hk,he=>by
  simp only [rngP] at hr;simp only [wrongPts] at he;split at he
  ·rename_i hx;exact absurd he hx
  rename_i hx;have hn:=uj (by simpa using hx:cS all i p.name=0);split at he
  ·rename_i hb;split at he
   ·exact absurd he (by simp)
   rename_i hq;have Tc:au=8:=by omega
   have h1:sameTy t bO=true:=by cases h:sameTy t bO with
    | true=>rfl
    | false=>exact absurd (.inr (.inl h)) hq
   have h2:cu p kx=true:=by cases h:cu p kx with
    | true=>rfl
    | false=>exact absurd (.inr (.inr h)) hq
   have i2:=xS au all r (i + 1) depth m n hr.2.2.2 hd hk he;subst Tc;obtain ⟨b1,b2⟩:=L4 h2;exact .bare hn b1 b2 (L5 h1) i2
  ·rename_i hb;split at he
   ·rename_i hw;exact absurd he hw
   rename_i hw;split at he
   ·rename_i kQ;exact absurd he kQ
   rename_i kQ;exact .part hn (Gr (sU hw) hr.1 hr.2.1) (sU hb) (Df t (depth + 1) m n hr.2.2.1 (by omega) (sU kQ)) (xS au all r (i + 1) depth _ n hr.2.2.2 hd hk he)
end
def kY (t:Ty):Bool:=decide ((wrong t 1 0).1.1=0)
def dh (s:eW):Bool:=
 (((decide (s.ay ≠ []) && s.ay.all fun w=>az w.s) && s.order.all fun p=>az p.1.s && az p.2.s) && s.types.all fun x=>az x.1.s && kY x.2) && kY s.root
def oZ (p:Wd × Wd):List UInt8:=tx p.1.s ++ [32,60,32] ++ tx p.2.s
def AR (x:Wd × Ty):List UInt8:=[32,116,121,112,101,32] ++ tx x.1.s ++ [32,61,32] ++ tyT x.2
def kP (s:eW):List UInt8:=[108,101,118,101,108,115,32,123] ++ joinT [] [44,32] (s.ay.map ka) ++ [125,32,111,114,100,101,114,32,123]
def uk (s:eW):List UInt8:=joinT [] [44,32] (s.order.map oZ) ++ [125]
def ei (s:eW):List UInt8:=kP s ++ uk s ++ (s.types.map AR).flatten ++ ([32,114,111,111,116,32] ++ tyT s.root)
theorem Dg:∀ l:List (Wd × Wd),jl (l.map oZ)<=prsWt l
 | []=>bn _
 | p :: r=>by
  have:=Dg r
  grind [jl,prsWt,Wd.wt,oZ,bf]
theorem mn (w:Wd) (hs:w.s.size<=1099511627776):cw prog 81 [.agg (lg w)] (.v (.bool (!az w.s))):=by
 refine eG 7 [.tmp 2] func81 rfl ntmps81 rfl fun _ _ _ _=>?_;refine cP HA (iL w.s (by omega)) ?_;exact (rfl:_=_)
abbrev Nq (l:List Wd) (e:Nat) (z:Int):St:=
 ⟨[gh 0 2 (bZ l),(1,⟨[],.fn 81 [] []⟩),bQ 7 ((bZ l).length),bQ 8 e],[],[]⟩
theorem AS (l:List Wd) (hs:wdsWt l<=1099511627776):Ev prog 155 [.sl 2 (bZ l) none,.fn 81 [] []] [] []
  (fun d _ _=>∃ z:Int,d = .v (.int .i64 z)/\((l.all fun w=>az w.s)=true->z = -1)/\((l.all fun w=>az w.s)=false->0<=z)):=by
 have hl:=cW l;refine eG 19 [.tmp 4] func155 rfl ntmps155 rfl fun _ _ _ _=>?_;refine lI (fun j st=>∃ e:Nat,st=Nq l e 0/\e<=l.length/\(l.all fun w=>az w.s)=((l.drop e).all fun w=>az w.s)/\j=l.length - e) ⟨0,rfl,by omega,rfl,rfl⟩ (fC wB) ?_;rintro j st ⟨e,rfl,he,dT,rfl⟩;refine br ?_ ?_<;>intro h
 ·have aS:e < l.length:=by have:=h;simp [aM] at this;exact this
  obtain ⟨w,hw⟩:=gX aS;have JU:=l7 (mG hw);rw [drop_cons hw] at dT;refine ⟨lg w,⟨by omega,eH hw⟩,?_⟩;refine cP KB (mn w (by omega)) ?_;refine br ?_ ?_<;>intro hb
  ·have hb:az w.s=false:=sU hb;refine ⟨_,rfl,fun hc=>?_,fun _=>by omega⟩;rw [dT,List.all_cons,hb] at hc;cases hc
  ·have hb:az w.s=true:=sU hb;refine ⟨Nq l (e + 1) 0,(fC (nc (gy aS (by omega)))),l.length - (e + 1),by omega,e + 1,rfl,by omega,?_,rfl⟩;rw [dT,List.all_cons,hb,Bool.true_and]
 ·have hge:e=l.length:=by have:=h;simp [aM] at this;omega
  refine ⟨-1,rfl,fun _=>rfl,fun hc=>?_⟩;rw [dT,hge,List.drop_length] at hc;cases hc
theorem um (l:List Wd) (hs:wdsWt l<=1099511627776):cw prog 83 [.sl 2 (bZ l) none,.fn 81 [] []] (.v (.bool (!(l.all fun w=>az w.s)))):=by
 have hi:=AS l hs;refine eG 9 [.tmp 4] func83 rfl ntmps83 rfl fun _ _ _ _=>?_;refine jt QT rfl hi ax (fun r hr=>?_);obtain ⟨z,rfl,h1,h2⟩:=hr;refine (dA ?_:);cases hc:l.all fun w=>az w.s
 ·have:=h2 hc;simp;omega
 ·have:=h1 hc;subst this;rfl
abbrev AU (s:eW) (e:Nat):St:=
 ⟨[cE 1 0,(3,⟨[],.fn 81 [] []⟩),gh 19 4 (du s.order),bQ 20 ((du s.order).length),bQ 21 e],[fy s],[]⟩
abbrev AV (s:eW) (e:Nat):St:=
 ⟨[cE 1 0,(3,⟨[],.fn 81 [] []⟩),gh 37 11 (gm s.types),bQ 38 ((gm s.types).length),bQ 39 e],[fy s],[]⟩
theorem lR (s:eW) (cL:s.wt<=1099511627776):cw prog 34 [.agg (fy s)] (.v (.bool (dh s))):=by
 have h1:=cW s.ay;have h2:=gn s.order;have h3:=iy s.types;simp only [eW.wt] at cL;have mM:=qB s.root (by omega);have Te:=um s.ay (by omega);have hF:dh s=((((decide (s.ay ≠ []) && s.ay.all fun w=>az w.s) && s.order.all fun p=>az p.1.s && az p.2.s) && s.types.all fun x=>az x.1.s && kY x.2) && kY s.root):=rfl;have hT:kY s.root=decide ((wrong s.root 1 0).1.1=0):=rfl;generalize dh s=F at hF ⊢;obtain ⟨ay,order,types,⟨h,ps⟩⟩:=s;simp only at h1 h2 h3 cL mM Te hF hT;refine eG 60 [.tmp 2] func34 rfl ntmps34 rfl fun _ _ _ _=>?_;refine br ?_ ?_<;>intro g
 ·have h0:ay ≠ []:=by
   rintro rfl;simp [aM] at g
  have BV:decide (ay ≠ [])=true:=decide_eq_true h0;rw [BV,Bool.true_and] at hF;refine cP UQ Te ?_;refine br ?_ ?_<;>intro c
  ·have c:(ay.all fun w=>az w.s)=false:=by simpa [pickB] using c
   refine (dA ?_:);rw [hF,c];all_goals rfl
  have c:(ay.all fun w=>az w.s)=true:=by simpa [pickB] using c
  rw [c,Bool.true_and] at hF
  refine de (fun j st=>∃ e:Nat,st=AU ⟨ay,order,types,.mk h ps⟩ e/\e<=order.length/\F=((((order.drop e).all fun p=>az p.1.s && az p.2.s) && types.all fun x=>az x.1.s && kY x.2) && kY (.mk h ps))/\j=order.length - e) order.length
   (AU ⟨ay,order,types,.mk h ps⟩ 0) (fC wB) ⟨0,rfl,by omega,hF,by omega⟩ ?_
  rintro j st ⟨e,rfl,he,dT,rfl⟩;refine br ?_ ?_<;>intro hL
  ·have aS:e < order.length:=by have:=hL;simp [cM] at this;exact this
   obtain ⟨w,hw⟩:=gX aS;have JU:=pK (mG hw);simp only [Wd.wt] at JU;rw [drop_cons hw,List.all_cons] at dT;refine iX (lL hw) ?_;refine cP KB (mn w.1 (by omega)) ?_;refine br ?_ ?_<;>intro b1
   ·have b1:az w.1.s=true:=sU b1;refine cP KB (mn w.2 (by omega)) ?_;refine br ?_ ?_<;>intro b2
    ·have b2:az w.2.s=false:=by simpa [pickB] using b2
     refine (dA ?_:);rw [dT,b1,b2];all_goals rfl
    ·have b2:az w.2.s=true:=by simpa [pickB] using b2
     rw [b1,b2,Bool.true_and,Bool.true_and] at dT;exact rE ⟨_,by omega,e + 1,rfl,by omega,dT,rfl⟩ (fC (nc (gy aS (by omega))))
   ·have b1:az w.1.s=false:=sU b1;refine (dA ?_:);rw [dT,b1];all_goals rfl
  have hge:e=order.length:=by have:=hL;simp [cM] at this;omega
  rw [hge,List.drop_length,List.all_nil,Bool.true_and] at dT
  refine de (fun j st=>∃ e:Nat,st=AV ⟨ay,order,types,.mk h ps⟩ e/\e<=types.length/\F=(((types.drop e).all fun x=>az x.1.s && kY x.2) && kY (.mk h ps))/\j=types.length - e) types.length
   (AV ⟨ay,order,types,.mk h ps⟩ 0) (fC wB) ⟨0,rfl,by omega,dT,by omega⟩ ?_
  clear dT hge he hL;rintro j st ⟨e,rfl,he,dT,rfl⟩;refine br ?_ ?_<;>intro hL
  ·have aS:e < types.length:=by have:=hL;simp [cT] at this;exact this
   obtain ⟨w,hw⟩:=gX aS;have JU:=gp (mG hw);simp only [Wd.wt] at JU;rw [drop_cons hw,List.all_cons] at dT;have hr:=qB w.2 (by omega);have E9:kY w.2=decide ((wrong w.2 1 0).1.1=0):=rfl;obtain ⟨w,u,us⟩:=w;simp only at JU dT hr E9;refine iX (jN hw) ?_;refine cP KB (mn w (by omega)) ?_;refine br ?_ ?_<;>intro b1
   ·have b1:az w.s=true:=sU b1;refine cP Oj hr ?_;refine br ?_ ?_<;>intro b2
    ·have b2:¬ (wrong (.mk u us) 1 0).1.1=0:=by simpa [pickB] using b2
     refine (dA ?_:);rw [dT,b1,E9,decide_eq_false b2];all_goals rfl
    ·have b2:(wrong (.mk u us) 1 0).1.1=0:=by simpa [pickB] using b2
     rw [b1,E9,decide_eq_true b2,Bool.true_and,Bool.true_and] at dT;exact rE ⟨_,by omega,e + 1,rfl,by omega,dT,rfl⟩ (fC (nc (gy aS (by omega))))
   ·have b1:az w.s=false:=sU b1;refine (dA ?_:);rw [dT,b1];all_goals rfl
  have hge:e=types.length:=by have:=hL;simp [cT] at this;omega
  rw [hge,List.drop_length,List.all_nil,Bool.true_and,hT] at dT;refine cP Oj mM ?_;refine (dA ?_:);rw [dT]
 ·have h0:ay=[]:=by
   have:=g;simp [aM] at this;exact this
  subst h0;refine (dA ?_:);rw [hF];all_goals rfl
theorem AW {a:List UInt8} (ha:1<=a.length):∀ l:List (List UInt8),l.length<=(joinT [] a l).length + 1
 | []=>by simp [joinT]
 | x :: r=>by
  have key:∀ r:List (List UInt8),r.length<=(r.flatMap fun y=>a ++ y).length:=by
   intro r
   induction r with
   | nil=>simp
   | cons x r ih=>rw [List.flatMap_cons,List.length_cons,List.length_append,List.length_append];omega
  have:=key r;rw [joinT,List.length_cons,List.length_append];omega
theorem Gu {p:Wd × Wd} (h1:az p.1.s=true) (h2:az p.2.s=true):ug jb bg 0 (oZ p) (bg p) [eQ p.1.s,cU 60,eQ p.2.s] where
 hd:=⟨p.1.s,_,rfl⟩
 LW r L hr hc:=by
  have:=aP.name h1 (bP (c:=32) (by decide)) (aP.blank (aP.mark (m:=60) (by decide) (aP.blank (aP.name h2 hr hc))));have e:oZ p ++ r=tx p.1.s ++ (32 :: 60 :: 32 :: (tx p.2.s ++ r)):=by simp [oZ]
  rw [e];exact this
 read c L acc h hL hd:=by
  obtain ⟨a1,a2⟩:=(h:At c (eQ p.1.s :: cU 60 :: eQ p.2.s :: L)).name;obtain ⟨a3,a4⟩:=(a2.ae:At (c.ai.ae dw) (eQ p.2.s :: L)).name;have a5:(c.ai.ae dw).ai.is 4 dw=false:=a4.notM hL (by simp)
  have e:bX c=([(c.aH,(c.ai.ae dw).aH)],(c.ai.ae dw).ai):=by
   obtain ⟨k,hk⟩:∃ k,bigN=k + 1:=⟨bigN - 1,by have:=dX;omega⟩;rw [bX,hk,pChain,a5,af (by simp)];rfl
  refine ⟨(c.aH,(c.ai.ae dw).aH),by rw [jb,e],?_,by rw [jb,e];exact a4,by rw [jb,e];show (c.ai.ae dw).ai.d=0;rw [named,eA,named,hd]⟩;show (bA c.aH,bA (c.ai.ae dw).aH)=(bA p.1,bA p.2);unfold bA;rw [a1,a3]
theorem Dh {l:List (Wd × Wd)} (hl:l ≠ []) (hw:∀ p∈l,az p.1.s=true/\az p.2.s=true) :
  ∃ K,(∃ w K',K=eQ w :: K')/\(∀ r L,aP r L->aP (joinT [] [44,32] (l.map oZ) ++ 125 :: r) (K ++ cU 125 :: L)) /\
   ∀ c L n,l.length<=n->At c (K ++ cU 125 :: L)->c.d=0->(listF jb aU n c []).2.map bg=l.map bg/\At (listF jb aU n c []).1 L/\(listF jb aU n c []).1.d=0:=by
 obtain ⟨K,k0,k1,k2⟩:=mj (f:=jb) (ga:=bg) (D:=0) (m:=125) (by decide) (by decide) (by decide) (by decide) (l.map fun p=>(oZ p,bg p)) (fun b hb=>by
  obtain ⟨p,hp,rfl⟩:=List.mem_map.1 hb
  exact ⟨_,Gu (hw p hp).1 (hw p hp).2⟩) (sU hl)
 have e1:(l.map fun p=>(oZ p,bg p)).map (·.1)=l.map oZ:=by simp
 have e2:(l.map fun p=>(oZ p,bg p)).map (·.2)=l.map bg:=by simp
 rw [e1] at k1;refine ⟨K,k0,k1,fun c L n hn h hd=>?_⟩;obtain ⟨us,u1,u2,u3,u4⟩:=k2 c L [] n (sU hn) h hd;rw [e2] at u2;have u1:(listF jb aU n c []).2=us:=u1;rw [u1];exact ⟨u2,u3,u4⟩
theorem uo:∀ (l:List (Wd × Ty)),(∀ x∈l,az x.1.s=true/\Bg 24 x.2) ->
  ∃ K:List dj,l.length<=K.length/\(∀ r L,jC r->aP r L->aP ((l.map AR).flatten ++ r) (K ++ L)/\jC ((l.map AR).flatten ++ r)) /\
   ∀ c L n acc,l.length < n->At c (K ++ eQ ez :: L)->c.d=0->(pTypes n acc c).1.map bi=acc.map bi ++ l.map bi/\At (pTypes n acc c).2 (eQ ez :: L)/\(pTypes n acc c).2.d=0
 | [],_=>⟨[],bn _,fun r L hr hc=>⟨hc,hr⟩,fun c L n acc hn h hd=>by
  obtain ⟨n,rfl⟩:∃ k,n=k + 1:=⟨n - 1,by simp at hn;omega⟩;have h:At c (eQ ez :: L):=h;have hi:c.is 1 oK=false:=by rw [h.is];decide
  rw [pTypes,hi,af (by simp)]
  exact ⟨by simp,h,hd⟩⟩
 | x :: l,hx=>by
  obtain ⟨K,k0,k1,k2⟩:=uo l fun y hy=>hx y (eB _ hy);obtain ⟨rN,K1,t1,t2⟩:=hx x (by simp);refine ⟨eQ oK :: eQ x.1.s :: cU 61 :: (K1 ++ K),by simp only [List.length_cons,List.length_append];omega,fun r L hr hc=>?_,fun c L n acc hn h hd=>?_⟩
  ·obtain ⟨m1,m2⟩:=k1 r L hr hc;have:=aP.blank (aP.name (w:=oK) (by decide) (bP (c:=32) (by decide)) (aP.blank (aP.name rN (bP (c:=32) (by decide)) (aP.blank (aP.mark (m:=61) (by decide) (aP.blank (t1 _ _ m2 m1)))))))
   have e:((x :: l).map AR).flatten ++ r=32 :: (tx oK ++ (32 :: (tx x.1.s ++ (32 :: 61 :: 32 :: (tyT x.2 ++ ((l.map AR).flatten ++ r)))))):=by
    simp [AR,tx]
   rw [e];exact ⟨by simpa using this,bP (by decide)⟩
  ·obtain ⟨n,rfl⟩:∃ k,n=k + 1:=⟨n - 1,by simp at hn;omega⟩;have h:At c (eQ oK :: eQ x.1.s :: cU 61 :: (K1 ++ (K ++ eQ ez :: L))):=sU h;obtain ⟨i1,i2⟩:=h.Tb;obtain ⟨i3,i4⟩:=i2.name;have i5:At (c.step.ai.ae lh) (K1 ++ (K ++ eQ ez :: L)):=i4.ae;have XY:(c.step.ai.ae lh).d=0:=by rw [eA,named,(aK.step _).d,hd]
   obtain ⟨j1,j2,j3⟩:=t2 _ _ i5 (by rw [XY]);obtain ⟨o1,o2,o3⟩:=k2 (pKind 24 (c.step.ai.ae lh)).2 L n (acc ++ [(c.step.aH,(pKind 24 (c.step.ai.ae lh)).1)]) (by simp at hn;omega) j2 (by rw [j3,XY]);rw [pTypes,aj i1];refine ⟨?_,o2,o3⟩;rw [o1]
   have e:bi (c.step.aH,(pKind 24 (c.step.ai.ae lh)).1)=bi x:=by
    show (bA c.step.aH,stripT (pKind 24 (c.step.ai.ae lh)).1)=(bA x.1,stripT x.2);rw [j1];unfold bA;rw [i3]
   simp [e]
theorem JD {S:eW} (h:dh S=true) (hr:kV S):S.ay ≠ []/\(∀ w∈S.ay,az w.s=true)/\(∀ p∈S.order,az p.1.s=true/\az p.2.s=true)/\(∀ x∈S.types,az x.1.s=true/\Bg 24 x.2)/\Bg 24 S.root:=by
 simp only [dh,aZ,List.all_eq_true,decide_eq_true_eq] at h;obtain ⟨⟨⟨⟨h1,h2⟩,h3⟩,h4⟩,h5⟩:=h;have key:∀ t,rngT t->kY t=true->Bg 24 t:=fun t ht hk=>oR t 24 (bn _) (Df t 1 0 24 ht (by omega) (of_decide_eq_true hk));exact ⟨h1,h2,h3,fun x hx=>⟨(h4 x hx).1,key _ (hr.1 x hx) (h4 x hx).2⟩,key _ hr.2 h5⟩
theorem AX {S:eW} (h:dh S=true) (hr:kV S) (hl:(ei S).length<=65536) :
  ∃ K,aP (ei S) K/\∀ c x,At c (K ++ [x])->c.d=0->bS (cY c).1=bS S/\At (cY c).2 [x]:=by
 obtain ⟨h1,h2,h3,h4,h5⟩:=JD h hr;obtain ⟨K1,_,a1,a2⟩:=ui (m:=125) (by decide) (by decide) (by decide) (by decide) h1 h2 0;obtain ⟨K3,b0,b1,b2⟩:=uo S.types h4;obtain ⟨K4,c1,c2⟩:=h5;have cL:=dX;have l1:=AW (a:=[44,32]) (by decide) (S.ay.map ka);have l2:=AW (a:=[44,32]) (by decide) (S.order.map oZ);have BI:=hl;simp only [ei,kP,uk,List.length_append,List.length_map] at BI l1 l2
 have hO:∃ K2,(∀ r L,aP r L->aP (uk S ++ r) (K2 ++ L))/\∀ c L,At c (K2 ++ L)->c.d=0->(dq c).1.map bg=S.order.map bg/\At (dq c).2 L/\(dq c).2.d=0:=by
  by_cases ho:S.order=[]
  ·refine ⟨[cU 125],fun r L hc=>?_,fun c L h hd=>?_⟩
   ·have:=aP.mark (m:=125) (by decide) hc;rw [uk,ho];exact this
   ·obtain ⟨i1,i2⟩:=(h:At c (cU 125 :: L)).JZ;have i1:c.is 4 aU=true:=i1;rw [dq,aj i1,ho];exact ⟨rfl,i2,by show c.step.d=0;rw [(aK.step _).d,hd]⟩
  ·obtain ⟨K2,⟨w,K',k0⟩,k1,k2⟩:=Dh ho h3;refine ⟨K2 ++ [cU 125],fun r L hc=>?_,fun c L h hd=>?_⟩
   ·have:=k1 r L hc;rw [uk];simpa using this
   ·have h:At c (K2 ++ cU 125 :: L):=sU h
    have i1:c.is 4 aU=false:=by
     rw [k0] at h;exact h.EL aU
    rw [dq,i1,af (by simp)];exact k2 c L bigN (by omega) h hd
 obtain ⟨K2,o1,o2⟩:=hO;refine ⟨eQ cA :: cU 123 :: (K1 ++ cU 125 :: eQ lO :: cU 123 :: (K2 ++ (K3 ++ eQ ez :: K4))),?_,fun c x hc hd=>?_⟩
 ·have r1:aP (32 :: (tx ez ++ (32 :: tyT S.root))) (eQ ez :: K4):=by
   have:=c1 [] [] (fun c hc=>by simp at hc) aP.nil;simp only [List.append_nil] at this;exact aP.blank (aP.name (w:=ez) (by decide) (bP (c:=32) (by decide)) (aP.blank this))
  have r3:=o1 _ _ (b1 _ _ (bP (c:=32) (by decide)) r1).1;have r4:=a1 _ _ (aP.blank (aP.name (w:=lO) (by decide) (bP (c:=32) (by decide)) (aP.blank (aP.mark (m:=123) (by decide) r3))));have r5:=aP.name (w:=cA) (by decide) (bP (c:=32) (by decide)) (aP.blank (aP.mark (m:=123) (by decide) r4))
  have e:ei S=tx cA ++ (32 :: 123 :: (joinT [] [44,32] (S.ay.map ka) ++ (125 :: (32 :: (tx lO ++ (32 :: 123 :: (uk S ++ ((S.types.map AR).flatten ++ (32 :: (tx ez ++ (32 :: tyT S.root))))))))))):=by
   simp [ei,kP,tx]
  rw [e];exact r5
 ·have hc:At c (eQ cA :: cU 123 :: (K1 ++ cU 125 :: (eQ lO :: cU 123 :: (K2 ++ (K3 ++ eQ ez :: (K4 ++ [x])))))):=sU hc;have s1:At ((c.kw cA).ae bm) _:=hc.kw.ae;have Vm:((c.kw cA).ae bm).d=0:=by rw [eA,(aK.kw _ _).d,hd]
  obtain ⟨p1,p2,p3⟩:=a2 _ _ bigN (by omega) s1 Vm;have p1:aw (dc c).1=aw S.ay:=p1;have p2:At (dc c).2 _:=p2;have p3:(dc c).2.d=0:=p3;obtain ⟨q1,q2⟩:=p2.Tb;have q3:At ((dc c).2.step.ae bm) _:=q2.ae;have e2:eh (dc c).2=dq ((dc c).2.step.ae bm):=by rw [eh,aj q1]
  obtain ⟨u1,u2,u3⟩:=o2 _ _ q3 (by rw [eA,(aK.step _).d,p3]);rw [<- e2] at u1 u2 u3
  have hlen:S.types.length < bigN:=by
   have h3:=u2.len;rw [List.length_append] at h3;omega
  obtain ⟨v1,v2,v3⟩:=b2 _ _ bigN [] hlen u2 u3;have v1:(jc (eh (dc c).2).2).1.map bi=S.types.map bi:=v1;have v2:At (jc (eh (dc c).2).2).2 _:=v2;have v3:(jc (eh (dc c).2).2).2.d=0:=v3;have w0:At ((jc (eh (dc c).2).2).2.kw ez) (K4 ++ [x]):=v2.kw;obtain ⟨w1,w2,w3⟩:=c2 _ _ w0 (by rw [(aK.kw _ _).d,v3]);refine ⟨?_,w2⟩;show eW.mk (aw (dc c).1) ((eh (dc c).2).1.map bg) ((jc (eh (dc c).2).2).1.map bi) (stripT (F5 (jc (eh (dc c).2).2).2).1)=_;rw [p1,u1,v1];have w1:stripT (F5 (jc (eh (dc c).2).2).2).1=stripT S.root:=w1;rw [w1];rfl
theorem Di {S:eW} (h:dh S=true) (hr:kV S) (hl:(ei S).length<=65536) :
  ∃ T:eW,cw prog 35 [.v (.string (ba (ei S)))] (.cp [.agg (fy T),Ft.d (0,0)])/\bS T=bS S:=by
 obtain ⟨K,k1,k2⟩:=AX h hr hl;have dp:(ba (ei S)).size=(ei S).length:=by rw [<- bf,kM]
 obtain ⟨l,hR,hK⟩:=Jz (s:=ba (ei S)) k1 0 (Nat.zero_le _) (by rw [kM];rfl);have h1:=tV (ba (ei S)) (by omega) l (0,0) hR (fun _=>rfl);rw [tU] at h1;obtain ⟨f1,f2,f3,f4⟩:=tX hR;have hL:=wH l (ba (ei S)).size (by omega);have g1:=tW (ba (ei S)) _ hL h1;have hA:At (jX (l ++ [gT (ba (ei S)).size])) (K ++ [S7 (gT (ba (ei S)).size)]):=⟨hL,rfl,by show ((l ++ [gT (ba (ei S)).size]).drop 0).map S7=_;rw [List.drop_zero,List.map_append,hK];rfl⟩;obtain ⟨i1,i2⟩:=k2 _ _ hA rfl;have hx:=qH (Sm.self hL) rfl;have hg:(cY (jX (l ++ [gT (ba (ei S)).size]))).2.f=(0,0):=hx.st.g i2.f;have hk:(cY (jX (l ++ [gT (ba (ei S)).size]))).2.aA.k=0:=i2.aA.1;have hE:Ay (cY (jX (l ++ [gT (ba (ei S)).size]))).2=(cY (jX (l ++ [gT (ba (ei S)).size]))).2:=by rw [Ay,af (fun g=>g.2 hk)]
 have hP:Dc (l ++ [gT (ba (ei S)).size])=((cY (jX (l ++ [gT (ba (ei S)).size]))).1,(0,0)):=by
  rw [Dc,hE,aj i2.f,hg]
 rw [hP] at g1;exact ⟨_,g1,i1⟩
def Bi (l:List dj):Prop:=∀ t∈l,fO t.n
theorem i64_0:fO 0:=by unfold fO;omega
theorem JE {c:aq} (h:Bi c.l):fO c.aA.n:=by
 unfold aq.aA;split
 ·cases hg:c.l[c.p]? with
  | none=>exact i64_0
  | some t=>exact h t (mG hg)
 ·exact i64_0
theorem oS {c:aq} (h:Bi c.l):fO c.fA:=by
 unfold aq.fA aq.td;split
 ·exact JE h
 ·exact i64_0
theorem eY {c:aq}:c.step.l=c.l:=(aK.step _).l
theorem dy {c:aq} {s:ByteArray}:(c.ae s).l=c.l:=(aK.ae _ _).l
theorem Gv {c:aq}:c.bq.l=c.l:=(aK.bq _).l
theorem iZ {c:aq}:c.ai.l=c.l:=(aK.ai _).l
theorem XZ {c:aq} {s:ByteArray}:(c.kw s).l=c.l:=(aK.kw _ _).l
theorem EM {c:aq} {e a:Int}:(c.cm e a).l=c.l:=by unfold aq.cm;split<;>rfl
theorem JF {c:aq}:c.wrong.l=c.l:=by unfold aq.wrong aq.fail;grind [EM]
theorem JG:∀ (n:Nat) (l:List Wd) (c:aq),(pLab n l c).2.l=c.l
 | 0,l,c=>rfl
 | n + 1,l,c=>by
  rw [pLab];split
  ·rw [JG,eY,iZ]
  ·exact iZ
theorem EN {c:aq}:(dY c).2.l=c.l:=JG _ _ _
theorem uq {c:aq} (h:Bi c.l):fO (gK c).1/\(gK c).2.l=c.l:=⟨oS (by rw [dy];exact h),by show (((c.ae aN).bq).ae aX).l=_;rw [dy,Gv,dy]⟩
theorem en {k n a:Int} {c:aq}:(dV k n a c).1.n=n/\(dV k n a c).2.l=c.l:=by
 unfold dV;split
 ·exact ⟨rfl,by rw [EN,eY]⟩
 ·exact ⟨rfl,rfl⟩
theorem AY {c:aq} (h:Bi c.l):fO (bI c).1.n/\(bI c).2.l=c.l:=by
 have h1:=uq (c:=c.step) (by rw [eY];exact h);rw [eY] at h1;unfold bI;split
 ·rw [en.1,en.2];exact h1
 split
 ·rw [en.1,en.2];exact h1
 split
 ·rw [en.1,en.2,eY];exact ⟨i64_0,rfl⟩
 split
 ·rw [en.1,en.2,aq.fail,EM];exact ⟨i64_0,rfl⟩
 ·rw [en.1,en.2,JF];exact ⟨i64_0,rfl⟩
def GU (x:Ph):Prop:=fO x.wide/\fO x.cn
theorem L6 {x:Ph} {c:aq} (hx:GU x):GU (oY x c).1/\(oY x c).2.l=c.l:=by
 unfold oY;split
 ·exact ⟨hx,by rw [EN,eY]⟩
 ·exact ⟨hx,rfl⟩
theorem L7 {x:Ph} {c:aq} (h:Bi c.l) (hx:GU x):GU (tI x c).1/\(tI x c).2.l=c.l:=by
 unfold tI;split
 ·exact ⟨⟨oS (by rw [eY];exact h),hx.2⟩,by rw [Gv,eY]⟩
 ·exact ⟨hx,rfl⟩
theorem L8 {x:Ph} {c:aq} (h:Bi c.l) (hx:GU x):GU (Ag x c).1/\(Ag x c).2.l=c.l:=by
 have h1:=AY (c:=c.step) (by rw [eY];exact h);rw [eY] at h1;unfold Ag;split
 ·exact ⟨⟨hx.1,h1.1⟩,h1.2⟩
 ·exact ⟨hx,rfl⟩
theorem ur {x:Ph} {c:aq} (h:Bi c.l) (hx:GU x):GU (bB x c).1/\(bB x c).2.l=c.l:=by
 have h1:=L6 (c:=c) hx;have h2:=L7 (c:=(oY x c).2) (by rw [h1.2];exact h) h1.1;have h3:=L8 (c:=(tI (oY x c).1 (oY x c).2).2) (by rw [h2.2,h1.2];exact h) h2.1;exact ⟨h3.1,by show (Ag _ _).2.l=c.l;rw [h3.2,h2.2,h1.2]⟩
theorem EO:∀ {l:List (Ph × Ty)},(∀ y∈l,GU y.1/\rngT y.2)->rngP (mkPts l)
 | [],_=>by rw [mkPts,rngP];trivial
 | y :: r,h=>by
  rw [mkPts,rngP];exact ⟨(h y (by simp)).1.1,(h y (by simp)).1.2,(h y (by simp)).2,EO fun z hz=>h z (eB _ hz)⟩
theorem oT {α:Type} {f:aq->α->aq × α} {P:α->Prop} {T:List dj} (hf:∀ c a,c.l=T->P a->P (f c a).2/\(f c a).1.l=T) (e:ByteArray) :
  ∀ (n:Nat) (c:aq) (a:α),c.l=T->P a->P (listF f e n c a).2/\(listF f e n c a).1.l=T
 | 0,c,a,h,ha=>⟨ha,h⟩
 | n + 1,c,a,h,ha=>by
  have h1:=hf c a h ha;rw [listF];split
  ·split
   ·exact ⟨h1.1,by show (f c a).1.step.l=T;rw [eY];exact h1.2⟩
   ·exact oT hf e n _ _ (by rw [dy];exact h1.2) h1.1
  ·exact ⟨ha,h⟩
theorem EP {e:ByteArray} {n:Nat} {c:aq} {l:List Wd}:(listF dP e n c l).1.l=c.l:=
 (oT (P:=fun _=>True) (T:=c.l) (fun c a h _=>⟨trivial,by show c.ai.l=_;rw [iZ,h]⟩) e n c l rfl trivial).2
def X0 (K:aq->Ty × aq):Prop:=∀ c,Bi c.l->rngT (K c).1/\(K c).2.l=c.l
theorem xT (w:Wd) (b:Bool):GU (iU w b):=⟨i64_0,i64_0⟩
theorem wL:rngT bO:=by
 unfold bO rngT rngP;exact ⟨i64_0,i64_0,i64_0,trivial⟩
theorem xU (k a:Int):rngT (Eo k a):=by
 unfold Eo rngT rngP;exact ⟨i64_0,i64_0,i64_0,trivial⟩
section
variable {K:aq->Ty × aq} (hK:X0 K)
include hK
theorem Gw {tag:Bool} {c:aq} (h:Bi c.l):(GU (cq K tag c).1.1/\rngT (cq K tag c).1.2)/\(cq K tag c).2.l=c.l:=by
 unfold cq;split
 ·unfold gW;split
  ·have h1:=hK c.ai.step (by rw [eY,iZ];exact h);have h2:=ur (x:=iU c.aH false) (c:=(K c.ai.step).2.ae aX) (by rw [dy,h1.2,eY,iZ];exact h) (xT _ _);exact ⟨⟨h2.1,h1.1⟩,by show (bB _ _).2.l=_;rw [h2.2,dy,h1.2,eY,iZ]⟩
  ·exact ⟨⟨xT _ _,wL⟩,iZ⟩
 ·have h1:=hK (c.ai.ae b9) (by rw [dy,iZ];exact h);have h2:=ur (x:=iU c.aH false) (c:=(K (c.ai.ae b9)).2) (by rw [h1.2,dy,iZ];exact h) (xT _ _);exact ⟨⟨h2.1,h1.1⟩,by show (bB _ _).2.l=_;rw [h2.2,h1.2,dy,iZ]⟩
theorem uu {tag:Bool} {c:aq} (h:Bi c.l):rngP (mkPts (cd K tag c).1)/\(cd K tag c).2.l=c.l:=by
 unfold cd;split
 ·exact ⟨trivial,by show (c.ae bm).step.l=_;rw [eY,dy]⟩
 ·have h1:=oT (f:=jA K tag) (P:=fun l=>∀ y∈l,GU y.1/\rngT y.2) (T:=c.l) (fun c' a hc ha=>by
   have h2:=Gw hK (tag:=tag) (c:=c') (by rw [hc];exact h);refine ⟨fun y hy=>?_,h2.2.trans hc⟩;have hy:y∈a ++ [(cq K tag c').1]:=hy;rcases List.mem_append.1 hy with hy | hy
   ·exact ha y hy
   ·rw [List.mem_singleton.1 hy]
    exact h2.1) aU bigN (c.ae bm) [] dy (fun y hy=>by cases hy)
  exact ⟨EO h1.1,h1.2⟩
theorem Gx {w:ByteArray} {a:Int} {c:aq} (h:Bi c.l):rngT (bJ K w a c).2.1/\(bJ K w a c).2.2.l=c.l:=by
 have hn:Bi (c.ae aN).l:=by rw [dy];exact h
 unfold bJ;split
 ·exact ⟨xU _ _,rfl⟩
 split
 ·refine ⟨?_,by show (((c.ae aN).bq.ae fX).bq.ae aX).l=_;rw [dy,Gv,dy,Gv,dy]⟩;simp only [rngT,rngP];exact ⟨oS hn,oS (by rw [dy,Gv];exact hn),i64_0,trivial⟩
 split
 ·refine ⟨?_,(uq h).2⟩;simp only [rngT,rngP];exact ⟨i64_0,i64_0,(uq h).1,trivial⟩
 split
 ·refine ⟨?_,by show (listF _ _ _ _ _).1.l=_;rw [EP,dy]⟩;simp only [rngT,rngP];exact ⟨i64_0,i64_0,i64_0,trivial⟩
 have h1:=hK _ hn;split
 ·refine ⟨?_,by show (((K (c.ae aN)).2.ae cB).bq.ae aX).l=_;rw [dy,Gv,dy,h1.2,dy]⟩;simp only [rngT,rngP];exact ⟨i64_0,i64_0,oS (by rw [dy,h1.2];exact hn),i64_0,i64_0,h1.1,trivial⟩
 split
 ·refine ⟨?_,by show ((K (c.ae aN)).2.ae aX).l=_;rw [dy,h1.2,dy]⟩;simp only [rngT,rngP];exact ⟨i64_0,i64_0,i64_0,i64_0,i64_0,h1.1,trivial⟩
 split
 ·have h2:=uu hK (tag:=false) h;refine ⟨?_,h2.2⟩;simp only [rngT];exact ⟨i64_0,i64_0,i64_0,h2.1⟩
 split
 ·have h2:=uu hK (tag:=true) h;refine ⟨?_,h2.2⟩;simp only [rngT];exact ⟨i64_0,i64_0,i64_0,h2.1⟩
 split
 ·refine ⟨?_,by show ((c.ae aN).ai.ae aX).l=_;rw [dy,iZ,dy]⟩;simp only [rngT,rngP];exact ⟨i64_0,i64_0,i64_0,trivial⟩
 ·exact ⟨xU _ _,rfl⟩
end
theorem p8:∀ n:Nat,X0 (pKind n)
 | 0=>fun c h=>⟨xU _ _,EM⟩
 | n + 1=>fun c h=>by
  have h1:=Gx (p8 n) (w:=c.deep.aA.s) (a:=c.aA.a) (c:=c.deep.step) (by rw [eY];exact h);have h2:c.deep.step.l=c.l:=eY;rw [pKind];split
  ·split
   ·exact ⟨h1.1,by show (bJ (pKind n) c.deep.aA.s c.aA.a c.deep.step).2.2.l=_;rw [h1.2,h2]⟩
   ·exact ⟨h1.1,by show ((bJ (pKind n) c.deep.aA.s c.aA.a c.deep.step).2.2.cm 9 c.deep.aA.a).l=_;rw [EM,h1.2,h2]⟩
  ·exact ⟨xU _ _,by show c.deep.wrong.l=_;rw [JF];rfl⟩
theorem AZ:∀ (n:Nat) (l:List (Wd × Wd)) (w:Wd) (c:aq),(pChain n l w c).2.l=c.l
 | 0,l,w,c=>rfl
 | n + 1,l,w,c=>by
  rw [pChain];split
  ·rw [AZ,eY,iZ]
  ·exact iZ
theorem JH {c:aq}:(dq c).2.l=c.l:=by
 unfold dq;split
 ·exact eY
 ·exact (oT (f:=jb) (P:=fun _=>True) (T:=c.l) (fun c' a h _=>⟨trivial,by show (pChain _ _ _ _).2.l=_;rw [AZ,dy,iZ,h]⟩) aU bigN c [] rfl trivial).2
theorem uv:∀ (n:Nat) (l:List (Wd × Ty)) (c:aq),Bi c.l->(∀ x∈l,rngT x.2)->(∀ x∈(pTypes n l c).1,rngT x.2)/\(pTypes n l c).2.l=c.l
 | 0,l,c,h,hl=>⟨hl,rfl⟩
 | n + 1,l,c,h,hl=>by
  rw [pTypes];split
  ·have e:(c.step.ai.ae lh).l=c.l:=by rw [dy,iZ,eY]
   have h1:=p8 24 (c.step.ai.ae lh) (by rw [e];exact h)
   have ih:=uv n (l ++ [(c.step.aH,(pKind 24 (c.step.ai.ae lh)).1)]) (pKind 24 (c.step.ai.ae lh)).2 (by rw [h1.2,e];exact h) (fun x hx=>by
    rcases List.mem_append.1 hx with hx | hx
    ·exact hl x hx
    ·rw [List.mem_singleton.1 hx]
     exact h1.1)
   exact ⟨ih.1,by rw [ih.2,h1.2,e]⟩
  ·exact ⟨hl,rfl⟩
theorem A0 {c:aq} (h:Bi c.l):kV (cY c).1:=by
 have e1:(dc c).2.l=c.l:=by show (listF _ _ _ _ _).1.l=_;rw [EP,dy,XZ]
 have e2:(eh (dc c).2).2.l=c.l:=by
  unfold eh;split
  ·rw [JH,dy,eY,e1]
  ·exact e1
 have h3:=uv bigN [] (eh (dc c).2).2 (by rw [e2];exact h) (fun x hx=>by cases hx);have h4:=p8 24 ((jc (eh (dc c).2).2).2.kw ez) (by rw [XZ];show Bi (pTypes bigN [] _).2.l;rw [h3.2,e2];exact h);exact ⟨h3.1,h4.1⟩
theorem Gy (s:ByteArray) (i:Nat):fO (takeN s i).1:=by
 unfold takeN fT fO
 grind
theorem L9 {s:ByteArray} {i:Nat} {t:dj} (h:ir s i=(t,(0,0))):fO t.n:=by
 unfold ir at h;have:=Gy s i;have:=i64_0
 grind
theorem JI {s:ByteArray} {i:Nat} {l:List dj} {f:Ft} (h:iT s i l f):Bi l:=by
 induction h with
 | tok h1 h2 h3 h4 h5 h6 h7 h8 ih=>
  intro t ht;rcases fp ht with rfl | ht
  ·exact L9 h4
  ·exact ih t ht
 | blank _ _ _ ih=>exact ih
 | rem _ _ _ _ _ _ ih=>exact ih
 | _=>intro t ht;cases ht
theorem wM (s:ByteArray):∃ (S:eW) (f:Ft),cw prog 35 [.v (.string s)] (.cp [.agg (fy S),Ft.d f])/\S.wt<=1000000000/\kV S:=by
 have hz:kV Db:=⟨fun x hx=>(by cases hx),wL⟩;rcases Nat.lt_or_ge 65536 s.size with hs | hs
 ·have h1:=Jt s hs;rw [jZ (by decide)] at h1;exact ⟨Db,(7,65536),wI s _ (by decide) h1,by decide,hz⟩
 ·obtain ⟨l,f,hR,hf⟩:=oH s s.size 0 (Nat.zero_le _) (bn _);have h1:=tV s hs l f hR hf;by_cases h0:f.1=0
  ·rw [hf h0,tU] at h1;obtain ⟨f1,f2,f3,f4⟩:=tX hR;have hL:=wH l s.size (by omega);refine ⟨_,_,tW s _ hL h1,?_,?_⟩
   ·have:=LU hL;have e:muL (l ++ [gT s.size])=muL l + 1024:=by rw [LS];all_goals rfl
    omega
   ·unfold Dc;split
    ·refine A0 fun t ht=>?_;have ht:t∈l ++ [gT s.size]:=ht;rcases List.mem_append.1 ht with ht | ht
     ·exact JI hR t ht
     ·rw [List.mem_singleton.1 ht];exact i64_0
    ·exact hz
  ·rw [jZ h0] at h1;exact ⟨Db,f,wI s f h0 h1,by decide,hz⟩
def uw:Ty:=.mk ⟨6,0,0,0,0,[],⟨aY,0⟩⟩ (.cons cj (.mk ⟨1,0,0,0,0,[],⟨aY,0⟩⟩ .nil) .nil)
theorem Gz:(wrong uw 1 0).1.1=0:=by
 simp [uw,wrong,wrongOne,nk,sameTy,gk,samePts,sameWds,mask,xn,cu,cj]
theorem GA:zn uw=⟨#[111,112,116,40,98,111,111,108,41]⟩:=by
 unfold zn;rw [aj Gz];decide +kernel
theorem kI:cw prog 33 [] (.v (.bool true)):=by
 have hu:=Cu uw (by decide) (by simp [uw,rngT,rngP,fO,cj]);refine eG 7 [.tmp 0] func33 rfl ntmps33 rfl fun _ _ _ _=>?_;refine cP UP hu ?_;refine (dA ?_:);rw [GA];decide +kernel
theorem mq (s:eW):(bS s).wt=s.wt:=by
 have h1:∀ l:List (Wd × Wd),prsWt (l.map bg)=prsWt l:=by
  intro l
  induction l with
  | nil=>rfl
  | cons x r ih=>simp only [List.map_cons,prsWt,ih,bg,bA,Wd.wt]
 have h2:∀ l:List (Wd × Ty),nmsWt (l.map bi)=nmsWt l:=by
  intro l
  induction l with
  | nil=>rfl
  | cons x r ih=>simp only [List.map_cons,nmsWt,ih,bi,bA,Wd.wt,pI]
 simp only [eW.wt,bS,pH,h1,h2,pI]
theorem kJ:∀ l:List Wd,sameWds l l=true
 | []=>rfl
 | x :: r=>by simp [sameWds,kJ r]
theorem qO (t:Ty):sameTy t t=true:=by
 obtain ⟨h,ps⟩:=t;simp [sameTy,gk,oy ps,kJ]
theorem oU:∀ l:List (Wd × Wd),samePrs l l=true
 | []=>rfl
 | x :: r=>by simp [samePrs,oU r]
theorem oV:∀ l:List (Wd × Ty),sameNms l l=true
 | []=>rfl
 | x :: r=>by simp [sameNms,oV r,qO]
theorem ux (a b:eW) (ha:a.wt<=1099511627776) (hb:b.wt<=1099511627776):cw prog 36 [.agg (fy a),.agg (fy b)] (.v (.bool (oq a b))):=by
 have sa:=qy a ha;have sb:=qy b hb;have wa:=mq a;have wb:=mq b;have h1:=cW (bS a).ay;have h2:=gn (bS a).order;rw [<- wa] at ha;rw [<- wb] at hb;simp only [eW.wt] at ha hb;have e1:=qv (bS a).ay (bS b).ay (by omega);have e2:=xz (bS a).order (bS b).order (by omega);have e3:=kz (bS a).root (bS b).root (by omega) (by omega);have e4:=zN (bS a).types (bS b).types (by omega) (by omega)
 have hF:oq a b=(eqWds (bS a).ay (bS b).ay && eqPrs (bS a).order (bS b).order && sameTy (bS a).root (bS b).root && eqNms (bS a).types (bS b).types):=by
  simp only [oq,bS,lE,jj,jk,jR,sZ]
 generalize bS a=A at *;generalize bS b=B at *;obtain ⟨al,ao,dR,⟨ah,aps⟩⟩:=a;obtain ⟨bl,bo,bt,⟨bh,bps⟩⟩:=b;obtain ⟨Al,Ao,At,⟨Ah,X1⟩⟩:=A;obtain ⟨Bl,Bo,Bt,⟨Bh,X2⟩⟩:=B;simp only at e1 e2 e3 e4 hF;rw [hF];refine eG 35 [.tmp 4] func36 rfl ntmps36 rfl fun _ _ _ _=>?_;refine dS ?_;refine cD QM sa ?_;refine cD QM sb ?_;refine cP QN e1 ?_;refine br ?_ ?_<;>intro g1
 ·have g1:eqWds Al Bl=true:=sU g1;refine cP UT e2 ?_;refine br ?_ ?_<;>intro g2
  ·have g2:eqPrs Ao Bo=true:=by simpa [pickB,g1] using g2
   refine cP Ol e3 ?_;refine br ?_ ?_<;>intro g3
   ·have g3:sameTy (.mk Ah X1) (.mk Bh X2)=true:=by simpa [pickB,g1,g2] using g3
    refine cP UU e4 ?_;refine (dA ?_:);simp [pickB,g1,g2,g3]
   ·have g3:sameTy (.mk Ah X1) (.mk Bh X2)=false:=by simpa [pickB,g1,g2] using g3
    refine (dA ?_:);simp [pickB,g1,g2,g3]
  ·have g2:eqPrs Ao Bo=false:=by simpa [pickB,g1] using g2
   refine (dA ?_:);simp [pickB,g1,g2]
 ·have g1:eqWds Al Bl=false:=sU g1;refine (dA ?_:);simp [pickB,g1]
theorem P5 {c c':Prop} [Decidable c] [Decidable c'] {a b a' b':Ft} (hc:c↔c') (h1:a.1=b.1) (h2:¬ c->a'.1=b'.1):(if c then a else a').1=(if c' then b else b').1:=by grind
theorem p9 (l:List Wd):(aw l).length=l.length:=by simp [aw]
theorem jn (w:Wd) (l:List Wd):aw (w :: l)=bA w :: aw l:=rfl
theorem lS (l:List Wd):aw l=[]↔l=[]:=by simp [aw]
theorem uy (all:List Wd) (i:Nat) (x:Wd):cS (aw all) i (bA x)=cS all i x:=by
 have:eO ((aw all).take i) (bA x).s=eO (all.take i) x.s:=by
  unfold eO aw;rw [<- List.map_take,List.any_map];rfl
 unfold cS;rw [this];rfl
theorem A1 (all:List Wd):∀ (l:List Wd) (i:Nat),(enumL (aw all) i (aw l)).1=(enumL all i l).1
 | [],i=>rfl
 | x :: r,i=>by
  rw [jn,enumL,enumL,uy];split
  ·rfl
  ·exact A1 all r (i + 1)
theorem A2:∀ l:List Wd,(badWd (aw l)).1=(badWd l).1
 | []=>rfl
 | x :: r=>by
  rw [jn,badWd,badWd];have:(bA x).s=x.s:=rfl;rw [this];split
  ·exact A2 r
  ·rfl
theorem wN (l:List Wd):(dg (aw l)).1=(dg l).1:=by grind [dg,p9,A2]
theorem Dj (p:Ph):(bW (bd p)).1=(bW p).1:=by
 unfold bW;have h1:(bd p).cl=aw p.cl:=rfl;have h2:(bd p).ck=p.ck:=rfl;have h3:(bd p).cn=p.cn:=rfl;rw [h1,h2,h3];refine P5 Iff.rfl (P5 (and_congr Iff.rfl (lS _)) rfl fun _=>rfl) fun _=>?_;refine P5 Iff.rfl rfl fun _=>?_;refine P5 Iff.rfl rfl fun _=>?_;exact wN _
theorem wO (p:Ph):(eJ (bd p)).1=(eJ p).1:=by grind [eJ,bd,aw,wN,Dj]
theorem GB (h:Hd):(jv (aT h)).1=(jv h).1:=by
 unfold jv;have h1:(aT h).aD=aw h.aD:=rfl;rw [h1];refine P5 (lS _) rfl fun _=>?_;rw [p9];exact P5 Iff.rfl rfl fun _=>A1 _ _ _
theorem Ma (h:Hd) (ps:Pts):qU (aT h) (stripP ps)=qU h ps:=by
 unfold qU;rw [iP];have h1:(aT h).aD=aw h.aD:=rfl;rw [h1,p9];rfl
theorem Mb (h:Hd) (ps:Pts):nk (.mk (aT h) (stripP ps))=nk (.mk h ps):=by
 unfold nk;rw [<- rc,<- rc,Ma]
theorem uz:∀ l m:List Wd,sameWds (aw l) m=sameWds l m
 | [],m=>rfl
 | x :: r,[]=>rfl
 | x :: r,y :: s=>by
  rw [jn,sameWds,sameWds,uz r s];rfl
theorem wP (p q:Ph):cu (bd p) q=cu p q:=by grind [cu,bd,aw,uz]
theorem wQ:∀ ps:Pts,pNames (stripP ps)=aw (pNames ps)
 | .nil=>rfl
 | .cons p t r=>by
  rw [stripP,pNames,pNames,jn,wQ r];rfl
def P6 (a b:Ft × Int):Prop:=a.1.1=b.1.1/\a.2=b.2
theorem er {c:Prop} [Decidable c] {a b a' b':Ft × Int} (h1:P6 a b) (h2:¬ c->P6 a' b'):P6 (if c then a else a') (if c then b else b'):=by grind
mutual
theorem uA:∀ (t:Ty) (d m:Int),P6 (wrong (stripT t) d m) (wrong t d m)
 | .mk h ps,d,m=>by
  have i1:=A3 h ps d (m + 1);have i2:=qP h.au (pNames ps) ps 0 d (m + 1);rw [stripT,wrong,wrong,Mb,iP,wQ];have e1:(aT h).au=h.au:=rfl;have e2:(aT h).hi=h.hi:=rfl;have e3:(aT h).lo=h.lo:=rfl;have e4:(aT h).most=h.most:=rfl;have e5:(aT h).name.s=h.name.s:=rfl;rw [e1,e2,e3,e4,e5];refine er ⟨rfl,rfl⟩ fun _=>?_;refine er ⟨rfl,rfl⟩ fun _=>?_;refine er ⟨rfl,rfl⟩ fun _=>?_;refine er ⟨rfl,rfl⟩ fun _=>?_;refine er ⟨rfl,rfl⟩ fun _=>?_;refine er ⟨rfl,rfl⟩ fun _=>?_;refine er ⟨GB h,rfl⟩ fun _=>?_;refine er i1 fun _=>?_;refine er ?_ fun _=>⟨rfl,rfl⟩;refine er ⟨rfl,rfl⟩ fun _=>?_;exact er ⟨rfl,rfl⟩ fun _=>i2
theorem A3:∀ (h:Hd) (ps:Pts) (d m:Int),P6 (wrongOne (aT h) (stripP ps) d m) (wrongOne h ps d m)
 | h,.nil,d,m=>by
  rw [stripP];simp only [wrongOne];exact ⟨rfl,rfl⟩
 | h,.cons p t .nil,d,m=>by
  have ih:=uA t (d + 1) m;rw [stripP,stripP,wrongOne,wrongOne,wP];have e1:(bd p).name.s=p.name.s:=rfl;have e2:(aT h).most=h.most:=rfl;rw [e1,e2];refine er ⟨rfl,rfl⟩ fun _=>?_;exact er ⟨rfl,rfl⟩ fun _=>ih
 | h,.cons p t (.cons q u r),d,m=>by
  rw [stripP,stripP];simp only [wrongOne];exact ⟨rfl,rfl⟩
theorem qP:∀ (au:Int) (all:List Wd) (ps:Pts) (i:Nat) (d m:Int),P6 (wrongPts au (aw all) i (stripP ps) d m) (wrongPts au all i ps d m)
 | au,all,.nil,i,d,m=>by rw [stripP,wrongPts,wrongPts];exact ⟨rfl,rfl⟩
 | au,all,.cons p t r,i,d,m=>by
  have i1:=uA t (d + 1) m;have i2:=fun m'=>qP au all r (i + 1) d m';rw [stripP,wrongPts,wrongPts,wP,jR,wO,i1.1,i1.2];have e1:(bd p).name=bA p.name:=rfl;have e2:(bd p).bare=p.bare:=rfl;rw [e1,e2,uy];refine er ⟨rfl,rfl⟩ fun _=>?_;refine er ?_ fun _=>?_
  ·exact er ⟨rfl,rfl⟩ fun _=>i2 _
  ·refine er ⟨wO p,rfl⟩ fun _=>?_;exact er i1 fun _=>i2 _
end
theorem GC (p:Wd × Wd) (hs:p.1.s.size + p.2.s.size<=1099511627776):cw prog 58 [.agg (FF p)] (.v (.string (ba (oZ p)))):=by
 refine eG 11 [.tmp 2] func58 rfl ntmps58 rfl fun _ _ _ _=>?_;refine ⟨by (simp only [aF,aO,List.length_cons,List.length_nil];omega),?_⟩;refine ⟨by (simp only [aF,aO,List.length_cons,List.length_nil];omega),?_⟩;refine (congrArg (fun s=>DV.v (.string s)) (cF ?_):_=_);simp [oZ,dJ,eU]
theorem A4 (l:List (Wd × Wd)) (hs:prsWt l<=1099511627776):cw prog 57 [.sl 4 (du l) none,.fn 58 [] []] (.v (.string (ba (joinT [] [44,32] (l.map oZ))))):=by
 have hl:=gn l;have hj:=dK (f:=[]) (s:=[44,32]) (by simp) (by simp) (l.map oZ);have W6:=Dg l;refine eG 23 [.tmp 4] func57 rfl ntmps57 rfl fun _ _ _ _=>?_;refine lJ (fun e=>pE 4 (du l) 58 (l.map oZ) e e) l.length (gF ⟨0,9,1,none⟩ rfl ⟨_,rfl⟩ rfl wA rfl rfl DH) ?_;intro e he;refine br ?_ ?_<;>intro h
 ·have aS:e < l.length:=by have:=h;simp [cM] at this;exact this
  obtain ⟨w,hw⟩:=gX aS;have JU:=pK (mG hw);simp only [Wd.wt] at JU;have kQ:(l.map oZ)[e]? = some (oZ w):=by simp [hw]
  refine ⟨FF w,⟨by omega,lL hw⟩,?_⟩;refine cP UO (GC w (by omega)) ?_;refine ⟨by simp [cH];omega,⟨by simp [cH,maxLen];omega,by simp [cH];omega⟩,?_⟩;refine ⟨pE 4 (du l) 58 (l.map oZ) (e + 1) (e + 1),(fC (yb (gy aS (by omega)) (lK kQ))),l.length - (e + 1),by omega,e + 1,rfl,by omega,rfl⟩
 ·have hge:e=l.length:=by
   have:=h;simp [cM] at this;omega
  have fl:(l.map oZ).take e=l.map oZ:=List.take_of_length_le (by simp;omega);rw [fl];refine cP DL (mc (l.map oZ) (ba [44,32]) (by simp;omega) (by rw [kM];omega)) ?_;rw [kM];exact (rfl:_=_)
theorem A5 {s:eW} (hr:kV s) (h:dh s=true):(∀ x∈s.types,ji x.2)/\ji s.root:=by
 simp only [dh,aZ,List.all_eq_true] at h;obtain ⟨⟨⟨_,_⟩,h3⟩,h4⟩:=h;refine ⟨fun x hx=>iO x.2 1 0 (hr.1 x hx) (of_decide_eq_true (h3 x hx).2),iO s.root 1 0 hr.2 (of_decide_eq_true h4)⟩
def kZ (s:eW):ByteArray:=if dh s=true then ba (ei s) else ⟨#[]⟩
abbrev JJ (s:eW) (l:List UInt8) (e:Nat):St:=
 ⟨[cE 1 0,cE 3 1,gh 21 11 (gm s.types),bQ 22 ((gm s.types).length),bQ 23 e],
  [fy s,[.loc 1 0,.sl 1 (bD l) (some 0)]],[⟨l.length,5,1,none⟩]⟩
def upto (s:eW) (e:Nat):List UInt8:=kP s ++ uk s ++ ((s.types.take e).map AR).flatten
theorem GD {s:eW} {e:Nat} {x:Wd × Ty} (h:s.types[e]? = some x):upto s (e + 1)=upto s e ++ AR x:=by
 unfold upto;rw [List.take_add_one,h];simp
theorem Mc {l:List (Wd × Ty)} (hf:∀ x∈l,ji x.2):((l.map AR).flatten).length<=nmsWt l:=by
 induction l with
 | nil=>simp
 | cons x r ih=>
  have i1:=ih (fun y hy=>hf y (by simp [hy]));have i2:=il (hf x (by simp));simp only [List.map_cons,List.flatten_cons,List.length_append,nmsWt,AR,bf,List.length_cons,List.length_nil,Wd.wt];omega
theorem uB:∀ (l:List (Wd × Ty)) (e:Nat),nmsWt (l.take e)<=nmsWt l
 | [],e=>by simp
 | w :: r,0=>by simp [nmsWt]
 | w :: r,e + 1=>by
  have:=uB r e;simp only [List.take_succ_cons,nmsWt];omega
theorem qa (s:eW) (cL:s.wt<=1099511627776) (Wx:kV s):cw prog 21 [.agg (fy s)] (.v (.string (kZ s))):=by
 have h1:=cW s.ay;have h2:=gn s.order;have h3:=iy s.types;have Px:=lR s cL;simp only [eW.wt] at cL;have e0:kZ s=if dh s=true then ba (ei s) else ⟨#[]⟩:=rfl
 have Tf:=A5 Wx;have l1:=sF s.ay (by omega);have l2:=A4 s.order (by omega);have j1:=dK (f:=[]) (s:=[44,32]) (by simp) (by simp) (s.ay.map ka);have j2:=nu s.ay;have j3:=dK (f:=[]) (s:=[44,32]) (by simp) (by simp) (s.order.map oZ);have j4:=Dg s.order;generalize kZ s=D at e0 ⊢;have hH:(kP s).length<=wdsWt s.ay + 20:=by simp only [kP,List.length_append,List.length_cons,List.length_nil];omega
 have hO:(uk s).length<=prsWt s.order + 10:=by simp only [uk,List.length_append,List.length_cons,List.length_nil];omega
 have hk:=fun hf=>pF s.root (by omega) hf;generalize hs:s=s' at *;obtain ⟨ay,order,types,⟨h,ps⟩⟩:=s';clear hs;simp only at h1 h2 h3 cL l1 l2 j1 j2 j3 j4 hH hO hk Tf;refine xj (s:=false) (bt:=[(1,113)]) (hbt:=fun p hp=>Nat.zero_le _) (P:=prog) tt sn 5000 44 [.tmp 2] func21 rfl ntmps21 rfl (nL rfl) (fun _ _ _ _=>?_);refine cP Oe Px ?_;refine br ?_ ?_<;>intro c
 ·have c:dh ⟨ay,order,types,.mk h ps⟩=false:=sU c;rw [c,af (by simp)] at e0;refine (congrArg (fun s=>DV.v (.string s)) ?_:_=_);rw [e0]
 have c:dh ⟨ay,order,types,.mk h ps⟩=true:=sU c;rw [aj c] at e0;obtain ⟨X3,Tk⟩:=Tf c;have mM:=il Tk;refine cP QK l1 ?_;refine ⟨by (simp only [aF,aO,List.length_cons,List.length_nil];omega),?_⟩;refine ⟨by (simp only [aF,aO,List.length_cons,List.length_nil];omega),?_⟩;refine gH rfl (kP ⟨ay,order,types,.mk h ps⟩) (l:=[]) (kt:=0) (by simp [kP]) (.head _) rfl (.inl rfl) (.inl ⟨rfl,rfl,rfl,rfl⟩) (by (simp only [aF,aO,List.length_cons,List.length_nil];omega)) (by omega) rfl ?_;refine cP UN l2 ?_;refine ⟨by (simp only [aF,aO,List.length_cons,List.length_nil];omega),?_⟩;refine gH rfl (upto ⟨ay,order,types,.mk h ps⟩ 0) (l:=kP ⟨ay,order,types,.mk h ps⟩) (kt:=0) (by simp [upto,uk]) (.head _) rfl (.inr rfl) (.inr ⟨rfl,by simp [kP],rfl,rfl⟩) (by (simp only [aF,aO,List.length_cons,List.length_nil];omega)) (by simp [upto];omega) rfl ?_;refine lJ (fun e=>JJ ⟨ay,order,types,.mk h ps⟩ (upto ⟨ay,order,types,.mk h ps⟩ e) e) types.length (fC wB) ?_;intro e he
 have hul:(upto ⟨ay,order,types,.mk h ps⟩ e).length<=wdsWt ay + prsWt order + nmsWt types + 30:=by
  have e1:=Mc (l:=types.take e) (fun x hx=>X3 x (List.mem_of_mem_take hx));have e2:=uB types e;simp only [upto,List.length_append];omega
 have Tg:upto ⟨ay,order,types,.mk h ps⟩ e ≠ []:=by simp [upto,kP]
 refine br ?_ ?_<;>intro hL
 ·have aS:e < types.length:=by have:=hL;simp [cT] at this;exact this
  obtain ⟨w,hw⟩:=gX aS;have B8:=gp (mG hw);have X4:=X3 w (mG hw);have vt:=GD (s:=⟨ay,order,types,.mk h ps⟩) hw;have X5:=pF w.2 (by omega) X4;have ja:=il X4;simp only [Wd.wt] at B8;obtain ⟨w,u,us⟩:=w;simp only at B8 X5 ja;refine iX (jN hw) ?_;refine xm (fun i=>Nat.beq i 9) mo (by decide +kernel) ?_;refine ⟨by (simp only [aF,aO,List.length_cons,List.length_nil];omega),?_⟩;refine ⟨by (simp only [aF,aO,List.length_cons,List.length_nil];omega),?_⟩;refine cD BS X5 ?_;refine ⟨by (simp only [aF,aO,List.length_cons,List.length_nil];omega),?_⟩;refine BQ rfl (gH rfl (upto ⟨ay,order,types,.mk h ps⟩ (e + 1)) (l:=upto ⟨ay,order,types,.mk h ps⟩ e) (kt:=0) (by rw [vt];simp [AR,tx]) (.head _) rfl (.inr rfl) (.inr ⟨rfl,Tg,rfl,rfl⟩) (by (simp only [aF,aO,List.length_cons,List.length_nil];omega)) (by rw [vt];simp only [List.length_append,AR,bf,List.length_cons,List.length_nil];omega) rfl ?_);refine ⟨JJ ⟨ay,order,types,.mk h ps⟩ (upto ⟨ay,order,types,.mk h ps⟩ (e + 1)) (e + 1),(fC (nc (gy aS (by omega)))),types.length - (e + 1),by omega,e + 1,rfl,by omega,rfl⟩
 have hge:e=types.length:=by have:=hL;simp [cT] at this;omega
 subst hge;refine cP BS (hk Tk) ?_;refine ⟨by (simp only [aF,aO,List.length_cons,List.length_nil];omega),?_⟩;have NH:ei ⟨ay,order,types,.mk h ps⟩=upto ⟨ay,order,types,.mk h ps⟩ types.length ++ ([32,114,111,111,116,32] ++ tyT (.mk h ps)):=by simp [ei,upto]
 refine gH rfl (ei ⟨ay,order,types,.mk h ps⟩) (l:=upto ⟨ay,order,types,.mk h ps⟩ types.length) (kt:=0) (by rw [NH];simp) (.head _) rfl (.inr rfl) (.inr ⟨rfl,Tg,rfl,rfl⟩) (by (simp only [aF,aO,List.length_cons,List.length_nil];omega)) (by rw [NH];simp only [List.length_append,List.length_cons,List.length_nil];omega) rfl ?_;refine KY rfl (l:=ei ⟨ay,order,types,.mk h ps⟩) (kt:=0) (.head _) rfl (by rw [NH];simp) rfl rfl rfl rfl ?_;refine (congrArg (fun s=>DV.v (.string s)) ?_:_=_);rw [e0]
mutual
theorem xV:∀ t:Ty,rngT (stripT t)↔rngT t
 | .mk h ps=>by
  rw [stripT,rngT,rngT,EQ ps];exact Iff.rfl
theorem EQ:∀ ps:Pts,rngP (stripP ps)↔rngP ps
 | .nil=>by rw [stripP]
 | .cons p t r=>by
  rw [stripP,rngP,rngP,xV t,EQ r];exact Iff.rfl
end
theorem ER (s:eW):kV (bS s)↔kV s:=by
 unfold kV;show (∀ x∈s.types.map bi,rngT x.2)/\rngT (stripT s.root)↔_;rw [xV]
 have:(∀ x∈s.types.map bi,rngT x.2)↔∀ x∈s.types,rngT x.2:=by
  simp only [List.mem_map,forall_exists_index,and_imp,forall_apply_eq_imp_iff₂];exact forall_congr' fun x=>imp_congr Iff.rfl (xV x.2)
 rw [this]
theorem Dk (l:List Wd):(aw l).map ka=l.map ka:=by simp [aw,ka]
theorem wR (l:List Wd):gl (aw l)=gl l:=by
 cases l with
 | nil=>rfl
 | cons w r=>
  have:=Dk (w :: r);rw [nQ] at this ⊢;unfold gl;rw [this]
theorem GF (p:Ph):dL (bd p)=dL p:=by
 unfold dL;rw [show (bd p).label=aw p.label from rfl,show (bd p).cl=aw p.cl from rfl,wR,wR];rfl
theorem JK (h:Hd) (u:List UInt8) (l:List (List UInt8)):ey (aT h) u l=ey h u l:=by
 unfold ey;rw [show (aT h).aD=aw h.aD from rfl,Dk];rfl
mutual
theorem xW:∀ t:Ty,tyT (stripT t)=tyT t
 | .mk h ps=>by
  have h2:ik (decide (h.au=8)) (stripP ps)=ik (decide (h.au=8)) ps:=ES _ ps
  have h3:firstT (stripP ps)=firstT ps:=by
   cases ps with
   | nil=>rfl
   | cons p t r=>rw [stripP,firstT,firstT,xW t]
  rw [stripT,tyT,tyT,JK,h3];show ey h (firstT ps) (ik (decide (h.au=8)) (stripP ps))=_;rw [h2]
theorem ES:∀ (tag:Bool) (ps:Pts),ik tag (stripP ps)=ik tag ps
 | _,.nil=>by rw [stripP]
 | tag,.cons p t r=>by
  rw [stripP,ik,ik,ES tag r,xW t];unfold fJ;rw [GF];rfl
end
theorem ET (s:eW):ei (bS s)=ei s:=by
 have h1:(s.order.map bg).map oZ=s.order.map oZ:=by simp [oZ,bg,bA]
 have h2:(s.types.map bi).map AR=s.types.map AR:=by simp [AR,bi,bA,xW]
 unfold ei kP uk;show _ ++ joinT [] [44,32] ((aw s.ay).map ka) ++ _ ++ (joinT [] [44,32] ((s.order.map bg).map oZ) ++ _) ++ ((s.types.map bi).map AR).flatten ++ (_ ++ tyT (stripT s.root))=_;rw [Dk,h1,h2,xW]
theorem EU (t:Ty):kY (stripT t)=kY t:=by
 unfold kY;rw [(uA t 1 0).1]
theorem wS (s:eW):dh (bS s)=dh s:=by
 have h1:decide ((aw s.ay) ≠ [])=decide (s.ay ≠ []):=by simp [aw]
 have h2:((aw s.ay).all fun w=>az w.s)=s.ay.all fun w=>az w.s:=by simp [aw,List.all_map,Function.comp_def]
 have h3:((s.order.map bg).all fun p=>az p.1.s && az p.2.s)=s.order.all fun p=>az p.1.s && az p.2.s:=by simp [bg,bA,List.all_map,Function.comp_def]
 have h4:((s.types.map bi).all fun x=>az x.1.s && kY x.2)=s.types.all fun x=>az x.1.s && kY x.2:=by simp [bi,bA,List.all_map,Function.comp_def,EU]
 unfold dh;show ((((decide ((aw s.ay) ≠ []) && ((aw s.ay).all fun w=>az w.s)) && ((s.order.map bg).all fun p=>az p.1.s && az p.2.s)) && ((s.types.map bi).all fun x=>az x.1.s && kY x.2)) && kY (stripT s.root))=_;rw [h1,h2,h3,h4,EU]
theorem EV {a b:eW} (h:bS a=bS b):oq a b=true:=by
 have h1:aw a.ay=aw b.ay:=congrArg eW.ay h;have h2:a.order.map bg=b.order.map bg:=congrArg eW.order h;have h3:a.types.map bi=b.types.map bi:=congrArg eW.types h;have h4:stripT a.root=stripT b.root:=congrArg eW.root h;unfold oq;rw [<- iR,h1,iR,kJ,<- jj,h2,jj,oU,<- jR,h4,jR,qO,<- jk,h3,jk,oV];rfl
theorem A6 {a b:eW} (h:bS a=bS b):(kV a↔kV b)/\a.wt=b.wt/\dh a=dh b/\ei a=ei b/\kZ a=kZ b:=by
 have h1:dh a=dh b:=by rw [<- wS,h,wS]
 have h2:ei a=ei b:=by rw [<- ET,h,ET]
 refine ⟨by rw [<- ER,h,ER],by rw [<- mq,h,mq],h1,h2,?_⟩;unfold kZ;rw [h1,h2]
theorem GG {S:eW} (h:dh S=true):kZ S=ba (ei S)/\(kZ S).size=(ei S).length:=by
 have e:kZ S=ba (ei S):=by rw [kZ,aj h]
 exact ⟨e,by rw [e,<- bf,kM]⟩
theorem A7 {S:eW} (h:dh S=true) (hr:kV S) (hw:S.wt<=1000000000000) :
  ∃ (T:eW) (f:Ft),cw prog 35 [.v (.string (kZ S))] (.cp [.agg (fy T),Ft.d f])/\T.wt<=1000000000000/\kV T/\((kZ S).size<=65536->f=(0,0)/\oq T S=true/\oq S T=true/\kZ T=kZ S):=by
 obtain ⟨e,dp⟩:=GG h;by_cases hl:(kZ S).size<=65536
 ·obtain ⟨T,h1,h2⟩:=Di h hr (by omega);obtain ⟨s1,s2,s3,s4,s5⟩:=A6 h2;exact ⟨T,(0,0),by rw [e];exact h1,by omega,s1.2 hr,fun _=>⟨rfl,EV h2,EV h2.symm,s5⟩⟩
 ·obtain ⟨T,f,h1,h2,h3⟩:=wM (kZ S);exact ⟨T,f,h1,by omega,h3,fun h=>absurd h hl⟩
theorem A8 (s:eW) (cL:s.wt<=1000000000000) (hr:kV s) (x:ByteArray):cw prog 9 [.agg (fy s),.v (.string x)] (.v (.bool true)):=by
 have Nf:=kI;have ga:=xx s (by omega);have r1:=lR s (by omega);have f1:=qa s (by omega) hr;have b1:=fun h=>A7 (S:=s) h hr cL;have u1:=fun t ht=>ux t s ht (by omega);obtain ⟨T,f,p1,pw,pr⟩:=wM x;have r2:=lR T (by omega);have f2:=qa T (by omega) pr;have b2:=fun h=>A7 (S:=T) h pr (by omega);have u2:=fun t ht=>ux T t (by omega) ht;have f3:=fun (t:eW) ht hr=>qa t ht hr;generalize dh s=R at r1 b1;generalize kZ s=D at f1 b1;generalize dh T=R2 at r2 b2;generalize kZ T=D2 at f2 b2;obtain ⟨ay,order,types,⟨h,ps⟩⟩:=s;obtain ⟨fa,fb⟩:=f;obtain ⟨T6,order2,Wy,⟨h2,ps2⟩⟩:=T;refine eG 86 [.tmp 4] func9 rfl ntmps9 rfl fun _ _ _ _=>?_;refine jt UK rfl ga ax (fun r hr=>?_);obtain ⟨g,rfl⟩:=hr
 cases g with
 | true=>
  refine cP Fj kI ?_;exact (rfl:_=_)
 | false=>
 refine br (fun _=>?_) (fun hx=>?_)
 ·refine cP Fj kI ?_;exact (rfl:_=_)
 refine cP Oe r1 ?_
 have uD:R=true->D.size<=65536->∃ t:eW,cw prog 35 [.v (.string D)] (.cp [.agg (fy t),Ft.d (0,0)])/\cw prog 36 [.agg (fy t),.agg (fy ⟨ay,order,types,.mk h ps⟩)] (.v (.bool true)):=fun hR hD=>by
  obtain ⟨t,f,q1,q2,q3,q4⟩:=b1 hR;obtain ⟨rfl,q5,_⟩:=q4 hD;have:=u1 t (by omega);rw [q5] at this;exact ⟨t,q1,this⟩
 clear b1 u1;cases R
 case' true=>
  refine cP KA f1 ?_;refine br (fun hD=>?_) (fun _=>?_)
  case' refine_1=>
   obtain ⟨⟨l3,o3,t3,⟨h3,ps3⟩⟩,q1,q2⟩:=uD rfl (by have:=of_decide_eq_true hD;omega);refine cP KA f1 ?_;refine cP Og q1 ?_;refine ⟨_,Lc _ _ (0,0) (0,0),?_⟩;refine cP QJ q2 ?_
 all_goals
  refine cP Og p1 ?_;refine br ?_ ?_<;>intro g
  case' refine_2=>
   refine cP Fj Nf ?_;exact (rfl:_=_)
  refine cP Oe r2 ?_
  cases R2 with
  | false=>
   refine cP Fj Nf ?_;exact (rfl:_=_)
  | true=>
  obtain ⟨⟨l4,o4,t4,⟨h4,ps4⟩⟩,⟨fc,fd⟩,q1,q2,q3,q4⟩:=b2 rfl;refine cP KA f2 ?_;refine cP Og q1 ?_;have v1:=u2 _ (Nat.le_trans q2 (by decide));have v2:=f3 _ (Nat.le_trans q2 (by decide)) q3;refine br ?_ ?_<;>intro g
  case' refine_2=>
   refine cP Fj Nf ?_;exact (rfl:_=_)
  obtain ⟨q5,_,q6,q7⟩:=q4 (by have:=g;simp [pickB] at this;omega);obtain ⟨rfl,rfl⟩:=Prod.mk.inj q5;rw [q6] at v1;rw [q7] at v2;refine ⟨_,OW _ _ (0,0) (0,0),?_⟩;refine cP QJ v1 ?_;refine cP KA v2 ?_;refine br (fun _=>?_) (fun g=>absurd g (by simp [pickB,lastG]));refine cP Fj Nf ?_;exact (rfl:_=_)
theorem back17_law (s:eW) (hs:s.wt<=1000000000000) (hr:kV s) (x:ByteArray) (_:x.size<=1048576):cw prog 9 [.agg (fy s),.v (.string x)] (.v (.bool true)):=A8 s hs hr x
end Go.Proofs.YtfdedoiiahbnnaaGreat
