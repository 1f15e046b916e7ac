/- Part 6 of the proof: UTF-8, plain: the document's well-formed bytes are the program's; a text's first units; UTF-8: the document's begins, left, Decode; Tables of runes; the unit at a place: the program's and the document's; Values that are the same; Which values fit which nodes: plain, as the program finds it and as the document says it; tree's leaf, kids, Fits; tree.Fits; the document's To, Fits; Values as they are written: plain; tree.write, Raw; Paths: data, Step compared with itself; ref09.Begins, Same on the same path; ref25.Step; A lattice, as its readers know it; Leq; joins are the document's; Where steps lead in a plan, and how places are seen, plain; What is seen of values, and where that differs, plain; A text's first units: the document's Head, the program's heads, floors; Reading of values whose numbers are ints, and of arrays of two; The numbers of a plan's nodes are ints; The document's Bottom, Right of paths; the program's Right of paths; The least depths of the values of a plan's nodes: plain; The program's nodes, least depths; A region that draws its order, in which a new object may come at any time among calls: its run with the object made at each of these times serves every order; Where steps lead: the document's Edge, Walk; the program's; The program's way along steps: fits, step, Walk; The document's least depths; fine; the chapter's example; The program's Depths; The law of least depths: fine, the example, the call returns true; With which schemas nothing is wrong: the document's Wrong of chapters 20, 21; the law's fine; Which levels see a place: the program's Who; A region that draws its order, run by a schedule: at each point all that may come and has an effect is tried; The document's rows of an audit: With, Under, How, Rows; The document's Fits; What is seen of a value: the document's Edge, Coarse, Erase, Seen; What is seen of a value: the program's look, sees, coarsely, edge, coarse; Paths of a value: plain; tree.steps; Where steps lead in a value, and that value with another one there: plain; Rules for the evaluator: calls that hand back fresh rows; Rules for the evaluator: elements of rows whose cells nobody else knows, read and written whole. No condition. -/
import Derived.OpenShut
import Derived.Test.YtadbccicdbopcaaGreatMg2
import Derived.Test.YtadbccicdbopcaaGreatMg3
import Derived.Test.YtadbccicdbopcaaGreatMg4
import Derived.Test.YtadbccicdbopcaaGreatMg5
set_option linter.all false
set_option maxRecDepth 100000
namespace Go.Proofs.YtadbccicdbopcaaGreat
open Go Go.RowKit Dv Tryz
theorem okU_cons (c:UInt8) (r:List UInt8):okU (c :: r)=(decide (1<=leadN c.toNat) && allC c.toNat r (leadN c.toNat - 1)):=rfl
def wfB (l:List UInt8):Bool:=scalB (recV l) && decide (encS (recV l)=l)
theorem u8_eq {k:Nat} {a:UInt8} (hk:k < 256):UInt8.ofNat k=a↔k=a.toNat:=by
 constructor
 ·rintro rfl;rw [UInt8.toNat_ofNat'];omega
 ·rintro rfl;exact UInt8.ofNat_toNat
theorem wfB_iff (l:List UInt8) {v:Int} (hv:recV l=v):wfB l=true↔(0<=v/\v<=1114111/\(v < 55296∨57343 < v))/\encV v.toNat=l:=by
 subst hv;unfold wfB encS;constructor
 ·intro h;rw [Bool.and_eq_true] at h;have h1:=h.1;have h2:=of_decide_eq_true h.2;rw [if_pos h1] at h2;simp [scalB] at h1;exact ⟨by omega,h2⟩
 ·intro ⟨h1,h2⟩;have h3:scalB (recV l)=true:=by simp [scalB];omega
  rw [h3,if_pos rfl];simp [h2]
theorem leadL_sp (c:Nat):(c=224/\leadL c=160)∨(c=240/\leadL c=144)∨(c≠224/\c≠240/\leadL c=128):=by
 unfold leadL
 repeat' split
 all_goals omega
theorem leadH_sp (c:Nat):(c=237/\leadH c=159)∨(c=244/\leadH c=143)∨(c≠237/\c≠244/\leadH c=191):=by
 unfold leadH
 repeat' split
 all_goals omega
theorem contB_0 (c b:Nat):contB c 0 b=true↔leadL c<=b/\b<=leadH c:=by
 unfold contB;rw [if_pos rfl,Bool.and_eq_true,decide_eq_true_iff,decide_eq_true_iff]
theorem contB_s (c k b:Nat):contB c (k + 1) b=true↔128<=b/\b<=191:=by
 unfold contB;rw [if_neg (Nat.succ_ne_zero k),Bool.and_eq_true,decide_eq_true_iff,decide_eq_true_iff]
theorem allC_1 (c:Nat) (b:UInt8) (r:List UInt8):allC c (b :: r) 1=contB c 0 b.toNat:=by simp [allC,List.range_succ]
theorem allC_2 (c:Nat) (b d:UInt8) (r:List UInt8):allC c (b :: d :: r) 2=(contB c 0 b.toNat && contB c 1 d.toNat):=by simp [allC,List.range_succ]
theorem allC_3 (c:Nat) (b d e:UInt8) (r:List UInt8):allC c (b :: d :: e :: r) 3=(contB c 0 b.toNat && contB c 1 d.toNat && contB c 2 e.toNat):=by simp [allC,List.range_succ,Bool.and_assoc]
theorem lead_1 (a:Nat):leadN a=1↔a < 128:=by
 unfold leadN;repeat' split
 all_goals omega
theorem lead_2 (a:Nat):leadN a=2↔194<=a/\a<=223:=by
 unfold leadN;repeat' split
 all_goals omega
theorem lead_3 (a:Nat):leadN a=3↔224<=a/\a<=239:=by
 unfold leadN;repeat' split
 all_goals omega
theorem lead_4 (a:Nat):leadN a=4↔240<=a/\a<=244:=by
 unfold leadN;repeat' split
 all_goals omega
theorem wf_1 (a:UInt8) (r:List UInt8):wfB [a]=true↔okU (a :: r)=true/\leadN a.toNat=1:=by
 have ha:=a.toNat_lt;rw [wfB_iff _ (v:=(a.toNat:Int)) rfl];rw [Int.toNat_natCast];unfold encV;rw [okU_cons];constructor
 ·intro ⟨h1,h2⟩
  have:a.toNat < 128:=by
   by_cases c:a.toNat < 128
   ·exact c
   ·rw [if_neg c] at h2
    repeat' split at h2
    all_goals (simp at h2)
  have:=(lead_1 _).2 this;rw [this];exact ⟨rfl,rfl⟩
 ·intro ⟨_,h2⟩;have h2:=(lead_1 _).1 h2;rw [if_pos h2];exact ⟨by omega,by rw [UInt8.ofNat_toNat]⟩
theorem wf_2 (a b:UInt8) (r:List UInt8):wfB [a,b]=true↔okU (a :: b :: r)=true/\leadN a.toNat=2:=by
 have ha:=a.toNat_lt;have hb:=b.toNat_lt;rw [wfB_iff _ (v:=((a.toNat:Int) - 192) * 64 + ((b.toNat:Int) - 128)) rfl];unfold encV;rw [okU_cons];constructor
 ·intro ⟨h1,h2⟩;generalize hn:((((a.toNat:Int) - 192) * 64 + ((b.toNat:Int) - 128))).toNat=n at h2
  repeat' split at h2
  any_goals (simp at h2;done)
  simp only [List.cons.injEq,and_true] at h2;rw [u8_eq (by omega),u8_eq (by omega)] at h2;have:=(lead_2 a.toNat).2 (by omega);rw [this];refine ⟨?_,rfl⟩;show (true && allC _ _ 1)=true;rw [Bool.true_and,allC_1,contB_0];have hL:=leadL_sp a.toNat;have hH:=leadH_sp a.toNat;omega
 ·intro ⟨h1,h2⟩;rw [h2] at h1;have h1:(true && allC _ _ 1)=true:=h1;rw [Bool.true_and,allC_1,contB_0] at h1;have hL:=leadL_sp a.toNat;have hH:=leadH_sp a.toNat;have h2:=(lead_2 _).1 h2;rw [if_neg (by omega),if_pos (by omega)];simp only [List.cons.injEq,and_true];rw [u8_eq (by omega),u8_eq (by omega)];omega
theorem wf_3 (a b c:UInt8) (r:List UInt8):wfB [a,b,c]=true↔okU (a :: b :: c :: r)=true/\leadN a.toNat=3:=by
 have ha:=a.toNat_lt;have hb:=b.toNat_lt;have hc:=c.toNat_lt;rw [wfB_iff _ (v:=((a.toNat:Int) - 224) * 4096 + ((b.toNat:Int) - 128) * 64 + ((c.toNat:Int) - 128)) rfl];unfold encV;rw [okU_cons];constructor
 ·intro ⟨h1,h2⟩;generalize hn:((((a.toNat:Int) - 224) * 4096 + ((b.toNat:Int) - 128) * 64 + ((c.toNat:Int) - 128))).toNat=n at h2
  repeat' split at h2
  any_goals (simp at h2;done)
  simp only [List.cons.injEq,and_true] at h2;rw [u8_eq (by omega),u8_eq (by omega),u8_eq (by omega)] at h2;have:=(lead_3 a.toNat).2 (by omega);rw [this];refine ⟨?_,rfl⟩;show (true && allC _ _ 2)=true;rw [Bool.true_and,allC_2,Bool.and_eq_true,contB_0,contB_s _ 0];have hL:=leadL_sp a.toNat;have hH:=leadH_sp a.toNat;omega
 ·intro ⟨h1,h2⟩;rw [h2] at h1;have h1:(true && allC _ _ 2)=true:=h1;rw [Bool.true_and,allC_2,Bool.and_eq_true,contB_0,contB_s _ 0] at h1;have hL:=leadL_sp a.toNat;have hH:=leadH_sp a.toNat;have h2:=(lead_3 _).1 h2;rw [if_neg (by omega),if_neg (by omega),if_pos (by omega)];simp only [List.cons.injEq,and_true];rw [u8_eq (by omega),u8_eq (by omega),u8_eq (by omega)];omega
theorem wf_4 (a b c d:UInt8) (r:List UInt8):wfB [a,b,c,d]=true↔okU (a :: b :: c :: d :: r)=true/\leadN a.toNat=4:=by
 have ha:=a.toNat_lt;have hb:=b.toNat_lt;have hc:=c.toNat_lt;have hd:=d.toNat_lt;rw [wfB_iff _ (v:=((a.toNat:Int) - 240) * 262144 + ((b.toNat:Int) - 128) * 4096 + ((c.toNat:Int) - 128) * 64 + ((d.toNat:Int) - 128)) rfl];unfold encV;rw [okU_cons];constructor
 ·intro ⟨h1,h2⟩;generalize hn:((((a.toNat:Int) - 240) * 262144 + ((b.toNat:Int) - 128) * 4096 + ((c.toNat:Int) - 128) * 64 + ((d.toNat:Int) - 128))).toNat=n at h2
  repeat' split at h2
  any_goals (simp at h2;done)
  simp only [List.cons.injEq,and_true] at h2;rw [u8_eq (by omega),u8_eq (by omega),u8_eq (by omega),u8_eq (by omega)] at h2;have:=(lead_4 a.toNat).2 (by omega);rw [this];refine ⟨?_,rfl⟩;show (true && allC _ _ 3)=true;rw [Bool.true_and,allC_3,Bool.and_eq_true,Bool.and_eq_true,contB_0,contB_s _ 0,contB_s _ 1];have hL:=leadL_sp a.toNat;have hH:=leadH_sp a.toNat;omega
 ·intro ⟨h1,h2⟩;rw [h2] at h1;have h1:(true && allC _ _ 3)=true:=h1;rw [Bool.true_and,allC_3,Bool.and_eq_true,Bool.and_eq_true,contB_0,contB_s _ 0,contB_s _ 1] at h1;have hL:=leadL_sp a.toNat;have hH:=leadH_sp a.toNat;have h2:=(lead_4 _).1 h2;rw [if_neg (by omega),if_neg (by omega),if_neg (by omega)];simp only [List.cons.injEq,and_true];rw [u8_eq (by omega),u8_eq (by omega),u8_eq (by omega),u8_eq (by omega)];omega
theorem lead_le (a:Nat):leadN a<=4:=by
 unfold leadN;repeat' split
 all_goals omega
theorem okU_len {l:List UInt8} (h:okU l=true):∃ c r,l=c :: r/\1<=leadN c.toNat/\leadN c.toNat<=l.length/\unN l=leadN c.toNat:=by
 cases l with
 | nil=>cases h
 | cons c r=>
  refine ⟨c,r,rfl,?_,?_,?_⟩
  ·unfold okU at h;rw [Bool.and_eq_true] at h;exact of_decide_eq_true h.1
  ·have h0:=h;unfold okU at h;rw [Bool.and_eq_true] at h;rcases Nat.lt_or_ge r.length (leadN c.toNat - 1) with g | g
   ·have h2:=h.2;unfold allC at h2;rw [List.all_eq_true] at h2;have:=h2 r.length (List.mem_range.2 g);rw [List.getElem?_eq_none (Nat.le_refl _)] at this;cases this
   ·rw [List.length_cons];omega
  ·show (if _ then _ else _)=_;rw [if_pos h]
theorem wf_n (c:UInt8) (r:List UInt8) (n:Nat) (h1:1<=n) (h4:n<=4) (hl:n<=r.length + 1):wfB ((c :: r).take n)=(okU (c :: r) && decide (leadN c.toNat=n)):=by
 apply Bool.eq_iff_iff.2;rw [Bool.and_eq_true,decide_eq_true_iff]
 match n,h1,h4,hl with
 | 1,_,_,_=>exact wf_1 c r
 | 2,_,_,h=>match r,h with
  | b :: r,_=>exact wf_2 c b r
 | 3,_,_,h=>match r,h with
  | b :: d :: r,_=>exact wf_3 c b d r
 | 4,_,_,h=>match r,h with
  | b :: d :: e :: r,_=>exact wf_4 c b d e r
theorem unN_pos {l:List UInt8} (h:l ≠ []):1<=unN l/\unN l<=l.length:=by
 cases l with
 | nil=>exact absurd rfl h
 | cons c r=>
  show 1<=(if _ then _ else _)/\(if _ then _ else _)<=_;split
  ·rename_i g;obtain ⟨c',r',e,h1,h2,h3⟩:=okU_len g;cases e;exact ⟨h1,h2⟩
  ·exact ⟨Nat.le_refl _,by rw [List.length_cons];omega⟩
theorem unN_of_take {a b:List UInt8} (hb:2<=unN b) (h:a.take (unN b)=b.take (unN b)):unN a=unN b:=by
 have hok:okU b=true:=by
  cases b with
  | nil=>exact absurd hb (by decide)
  | cons c r=>
   cases hc:okU (c :: r)
   ·have:unN (c :: r)=1:=by show (if _ then _ else _)=_;rw [hc];all_goals rfl
    omega
   ·rfl
 obtain ⟨c,r,rfl,h1,h2,h3⟩:=okU_len hok;rw [h3] at h ⊢
 have hl:leadN c.toNat<=a.length:=by
  have:=congrArg List.length h;rw [List.length_take,List.length_take] at this;omega
 have hw:=wf_n c r (leadN c.toNat) h1 (lead_le _) h2;rw [hok,decide_eq_true rfl,<- h] at hw
 cases a with
 | nil=>exact absurd hl (by rw [List.length_nil];omega)
 | cons d s=>
  rw [wf_n d s (leadN c.toNat) h1 (lead_le _) hl] at hw;rw [Bool.true_and,Bool.and_eq_true,decide_eq_true_iff] at hw;show (if _ then _ else _)=_;rw [if_pos hw.1];exact hw.2
def headL:Nat->List UInt8->List UInt8
 | 0,_=>[]
 | u + 1,l=>l.take (unN l) ++ headL u (l.drop (unN l))
theorem headL_nil (u:Nat):headL u []=[]:=by
 induction u with
 | zero=>rfl
 | succ u ih=>show [].take _ ++ headL u ([].drop _)=[];rw [List.take_nil,List.drop_nil,ih];all_goals rfl
theorem headL_pre (u:Nat) (l:List UInt8):headL u l <+: l:=by
 induction u generalizing l with
 | zero=>exact List.nil_prefix
 | succ u ih=>
  obtain ⟨t,ht⟩:=ih (l.drop (unN l));refine ⟨t,?_⟩;show (_ ++ _) ++ t=l;rw [List.append_assoc,ht,List.take_append_drop]
def headsL:Nat->List UInt8->List UInt8->Bool
 | 0,_,_=>true
 | u + 1,a,b=>decide (unN a=unN b) && decide (a.take (unN a)=b.take (unN b)) && headsL u (a.drop (unN a)) (b.drop (unN b))
theorem heads_lt (u:Nat) {a b:List UInt8} (hlt:unN a < unN b):headL (u + 1) a≠headL (u + 1) b:=by
 intro h
 have hbn:b ≠ []:=by
  rintro rfl;exact absurd hlt (by rw [show unN []=0 from rfl];omega)
 obtain ⟨hb1,hb2⟩:=unN_pos hbn
 cases a with
 | nil=>
  rw [headL_nil] at h;have:=congrArg List.length h;rw [show headL (u + 1) b=b.take (unN b) ++ headL u (b.drop (unN b)) from rfl,List.length_append,List.length_take,List.length_nil] at this;omega
 | cons c r=>
  obtain ⟨ha1,ha2⟩:=unN_pos (l:=c :: r) (by simp);obtain ⟨t,ht⟩:=headL_pre (u + 1) (c :: r)
  have hH:(headL (u + 1) b).take (unN b)=b.take (unN b):=by
   rw [show headL (u + 1) b=b.take (unN b) ++ headL u (b.drop (unN b)) from rfl,List.take_append_of_le_length (by rw [List.length_take];omega),List.take_take,Nat.min_self]
  have hHl:unN b<=(headL (u + 1) b).length:=by
   rw [show headL (u + 1) b=b.take (unN b) ++ headL u (b.drop (unN b)) from rfl,List.length_append,List.length_take];omega
  have h2:(c :: r).take (unN b)=b.take (unN b):=by
   rw [<- hH,<- ht,h];exact List.take_append_of_le_length hHl
  have:=unN_of_take (a:=c :: r) (b:=b) (by omega) h2;omega
theorem heads_eq (u:Nat) (a b:List UInt8):headsL u a b=decide (headL u a=headL u b):=by
 induction u generalizing a b with
 | zero=>simp [headsL,headL]
 | succ u ih=>
  rcases Nat.lt_trichotomy (unN a) (unN b) with h | h | h
  ·rw [decide_eq_false (heads_lt u h)];simp [headsL,Nat.ne_of_lt h]
  ·show (decide (unN a=unN b) && decide (a.take (unN a)=b.take (unN b)) && headsL u (a.drop (unN a)) (b.drop (unN b)))=_;rw [ih,show headL (u + 1) b=b.take (unN b) ++ headL u (b.drop (unN b)) from rfl,show headL (u + 1) a=a.take (unN a) ++ headL u (a.drop (unN a)) from rfl,<- h,decide_eq_true rfl,Bool.true_and];apply Bool.eq_iff_iff.2;rw [Bool.and_eq_true,decide_eq_true_iff,decide_eq_true_iff,decide_eq_true_iff];constructor
   ·intro ⟨h1,h2⟩;rw [h1,h2]
   ·intro h1;refine List.append_inj h1 ?_
    have ha:a=[]∨unN a<=a.length:=by
     cases a with
     | nil=>exact .inl rfl
     | cons c r=>exact .inr (unN_pos (by simp)).2
    have hb:b=[]∨unN b<=b.length:=by
     cases b with
     | nil=>exact .inl rfl
     | cons c r=>exact .inr (unN_pos (by simp)).2
    rw [List.length_take,List.length_take];rcases ha with rfl | ha<;>rcases hb with rfl | hb
    ·rfl
    ·rw [<- h] at hb;have:unN ([]:List UInt8)=0:=rfl;omega
    ·have:unN ([]:List UInt8)=0:=rfl;omega
    ·omega
  ·rw [decide_eq_false (fun e=>heads_lt u h e.symm)];simp [headsL,Nat.ne_of_gt h]
theorem ba_inj {a b:List UInt8}:ba a=ba b↔a=b:=⟨fun h=>by have:=congrArg tx h;rwa [tx_ba,tx_ba] at this,fun h=>by rw [h]⟩
def spB:List DV->Bool
 | [.v (.int .i32 _),.v (.int .i32 _)]=>true
 | _=>false
theorem spB_some {cs:List DV} (h:spB cs=true):∃ a b:Int,cs=[.v (.int .i32 a),.v (.int .i32 b)]:=by
 unfold spB at h;split at h
 ·exact ⟨_,_,rfl⟩
 ·cases h
theorem sp_at {es:List (List DV)} (h:es.all spB=true) {i:Nat} (hi:i < es.length):∃ a b:Int,es[i]? = some [.v (.int .i32 a),.v (.int .i32 b)]:=by
 rw [List.all_eq_true] at h;obtain ⟨a,b,hab⟩:=spB_some (h es[i] (List.getElem_mem hi));exact ⟨a,b,by rw [gE hi,hab]⟩
def TabΦ (d:DV) (_:List (List DV)) (_:List TkE):Prop:=∃ es:List (List DV),d = .sl 2 es none/\(Nat.ble es.length 1000 && es.all spB)=true
set_option maxHeartbeats 4000000 in
theorem wide_tab:Ev Tryz.prog 471 [] [] [] TabΦ:=by
 refine ev_go (P:=Tryz.prog) tt tt_ok 5000 118 [.tmp 0] Tryz.func471 rfl Tryz.ntmps471 rfl (nL rfl) (fun E9 w9 hn9 hm9=>?_);exact ⟨_,ax,_,rfl,rfl⟩
set_option maxHeartbeats 4000000 in
theorem zero_tab:Ev Tryz.prog 472 [] [] [] TabΦ:=by
 refine ev_go (P:=Tryz.prog) tt tt_ok 5000 84 [.tmp 0] Tryz.func472 rfl Tryz.ntmps472 rfl (nL rfl) (fun E9 w9 hn9 hm9=>?_);exact ⟨_,ax,_,rfl,rfl⟩
abbrev inSt (es:List (List DV)) (z:Int) (lo hi:Nat):St:=⟨[(0,⟨[],.sl 2 es none⟩),(1,⟨[],.v (.int .i32 z)⟩),(5,⟨[],.v (.int .i64 lo)⟩),(6,⟨[],.v (.int .i64 hi)⟩)],[],[]⟩
theorem in_spec (es:List (List DV)) (z:Int) (hl:es.length<=1000) (hs:es.all spB=true):Ev Tryz.prog 443 [.sl 2 es none,.v (.int .i32 z)] [] [] (fun d _ _=>∃ b:Bool,d = .v (.bool b)):=by
 refine ev_go (P:=Tryz.prog) tt tt_ok 5000 38 [.tmp 4] Tryz.func443 rfl Tryz.ntmps443 rfl (nL rfl) (fun E9 w9 hn9 hm9=>?_);refine loop_i (fun j st=>∃ lo hi:Nat,st=inSt es z lo hi/\lo<=hi/\hi<=es.length/\j=hi - lo) es.length (inSt es z 0 es.length) (weak_mk ⟨_,rfl⟩ wA rfl rfl rfl wRB) ⟨0,es.length,rfl,by omega,by omega,by omega⟩ ?_;rintro j st ⟨lo,hi,rfl,h1,h2,rfl⟩;refine br (fun hL=>?_) (fun hL=>?_)
 rotate_left
 ·exact ⟨_,rfl⟩
 have hlt:lo < hi:=by have:=of_decide_eq_true hL;omega
 have hm:IntKind.i64.wrap ((lo:Int) + IntKind.i64.wrap ((IntKind.i64.wrap ((hi:Int) - lo)).tdiv 2))=((lo + (hi - lo) / 2:Nat):Int):=by
  rw [wrap64 (n:=(hi:Int) - lo) (by omega) (by omega)];rw [Int.tdiv_eq_ediv_of_nonneg (by omega)];rw [wrap64 (n:=((hi:Int) - lo) / 2) (by omega) (by omega),wrap64 (by omega) (by omega)];omega
 obtain ⟨a,b,hab⟩:=sp_at hs (i:=lo + (hi - lo) / 2) (by omega);refine ⟨⟨rfl,by decide⟩,?_⟩;refine ⟨_,⟨by rw [hm];omega,by rw [hm,Int.toNat_natCast];exact hab⟩,?_⟩;refine br (fun c=>?_) (fun c=>?_)
 ·exact ⟨inSt es z lo (lo + (hi - lo) / 2),(weak_mk ⟨_,rfl⟩ wA rfl rfl rfl (by repeat' (first | exact trivial | exact we_rfl rfl | exact we_int hm | refine ⟨⟨_,rfl,?_⟩,?_⟩))),lo + (hi - lo) / 2 - lo,by omega,_,_,rfl,by omega,by omega,rfl⟩
 ·refine ⟨_,⟨by rw [hm];omega,by rw [hm,Int.toNat_natCast];exact hab⟩,?_⟩;refine br (fun c=>?_) (fun c=>?_)
  ·have hm2:IntKind.i64.wrap (IntKind.i64.wrap ((lo:Int) + IntKind.i64.wrap ((IntKind.i64.wrap ((hi:Int) - lo)).tdiv 2)) + 1)=((lo + (hi - lo) / 2 + 1:Nat):Int):=by
    rw [hm,wrap64 (by omega) (by omega)];omega
   exact ⟨inSt es z (lo + (hi - lo) / 2 + 1) hi,(weak_mk ⟨_,rfl⟩ wA rfl rfl rfl (by repeat' (first | exact trivial | exact we_rfl rfl | exact we_int hm2 | refine ⟨⟨_,rfl,?_⟩,?_⟩))),hi - (lo + (hi - lo) / 2 + 1),by omega,_,_,rfl,by omega,by omega,rfl⟩
  ·exact ⟨_,rfl⟩
theorem iswide_spec (z:Int):Ev Tryz.prog 467 [.v (.int .i32 z)] [] [] (fun d _ _=>∃ b:Bool,d = .v (.bool b)):=by
 refine ev_go (P:=Tryz.prog) tt tt_ok 5000 6 [.tmp 2] Tryz.func467 rfl Tryz.ntmps467 rfl (nL rfl) (fun E9 w9 hn9 hm9=>?_);refine call_e en471 rfl wide_tab ax (fun q hq=>?_);obtain ⟨es,rfl,he⟩:=hq;rw [Bool.and_eq_true,Nat.ble_eq] at he;refine call_e en443 rfl (in_spec es z he.1 he.2) ax (fun q hq=>?_);obtain ⟨b,rfl⟩:=hq;exact ⟨_,rfl⟩
theorem iszero_spec (z:Int):Ev Tryz.prog 468 [.v (.int .i32 z)] [] [] (fun d _ _=>∃ b:Bool,d = .v (.bool b)):=by
 refine ev_go (P:=Tryz.prog) tt tt_ok 5000 6 [.tmp 2] Tryz.func468 rfl Tryz.ntmps468 rfl (nL rfl) (fun E9 w9 hn9 hm9=>?_);refine call_e en472 rfl zero_tab ax (fun q hq=>?_);obtain ⟨es,rfl,he⟩:=hq;rw [Bool.and_eq_true,Nat.ble_eq] at he;refine call_e en443 rfl (in_spec es z he.1 he.2) ax (fun q hq=>?_);obtain ⟨b,rfl⟩:=hq;exact ⟨_,rfl⟩
theorem rune_spec (z:Int):Ev Tryz.prog 460 [.v (.int .i32 z)] [] [] (fun d _ _=>∃ n:Int,d = .v (.int .i64 n)):=by
 refine ev_go (P:=Tryz.prog) tt tt_ok 5000 9 [.tmp 2] Tryz.func460 rfl Tryz.ntmps460 rfl (nL rfl) (fun E9 w9 hn9 hm9=>?_);refine call_e en467 rfl (iswide_spec z) ax (fun q hq=>?_);obtain ⟨b,rfl⟩:=hq
 cases b with
 | true=>exact ⟨_,rfl⟩
 | false=>
  refine call_e en468 rfl (iszero_spec z) ax (fun q hq=>?_);obtain ⟨b,rfl⟩:=hq
  cases b with
  | true=>exact ⟨_,rfl⟩
  | false=>exact ⟨_,rfl⟩
theorem udec_end (s:ByteArray) (hs:s.size<=1099511627776):EvP Tryz.prog 349 [.v (.string s),.v (.int .i64 (s.size:Nat))] (.tup [.v (.int .i32 0),.v (.int .i64 0),.v (.bool false)]):=by
 refine ev_go (P:=Tryz.prog) tt tt_ok 5000 60 [.tmp 4,.tmp 5,.tmp 6] Tryz.func349 rfl Tryz.ntmps349 rfl (nL rfl) (fun E9 w9 hn9 hm9=>?_);refine br (fun _=>?_) (fun c=>absurd c (by simp [pickB_or]));exact ⟨_,ax,rfl⟩
theorem unit_spec (s:ByteArray) (at':Nat) (hs:s.size<=1099511627776) (h:at' <= s.size):Ev Tryz.prog 442 [.v (.string s),.v (.int .i64 at')] [] [] (fun d _ _=>∃ c:Int,d = .tup [.v (.int .i64 c),.v (.int .i64 (unN ((tx s).drop at'):Nat))]):=by
 cases hd:(tx s).drop at' with
 | nil=>
  have he:at'=s.size:=by
   have:=congrArg List.length hd;rw [List.length_drop,tx_len,List.length_nil] at this;omega
  subst he;refine ev_go (P:=Tryz.prog) tt tt_ok 5000 24 [.tmp 4,.tmp 5] Tryz.func442 rfl Tryz.ntmps442 rfl (nL rfl) (fun E9 w9 hn9 hm9=>?_);refine call_p en349 (udec_end s hs) ax rfl ?_;exact ⟨.tup [.v (.int .i64 0),.v (.int .i64 ((0:Nat):Int))],ax,_,rfl⟩
 | cons c r=>
  have hu:=udec_spec s at' hs c r hd;have hun:unN (c :: r)=if okU (c :: r)=true then leadN c.toNat else 1:=rfl
  rw [hun];generalize okU (c :: r)=ok at hu ⊢;refine ev_go (P:=Tryz.prog) tt tt_ok 5000 24 [.tmp 4,.tmp 5] Tryz.func442 rfl Tryz.ntmps442 rfl (nL rfl) (fun E9 w9 hn9 hm9=>?_);refine call_e en349 rfl hu ax (fun q hq=>?_);obtain ⟨z,n,rfl,hn,hp⟩:=hq
  cases ok with
  | true=>
   have:=hn rfl;subst this;refine call_e en460 rfl (rune_spec z) ax (fun q hq=>?_);obtain ⟨m,rfl⟩:=hq;exact ⟨.tup [.v (.int .i64 m),.v (.int .i64 (leadN c.toNat:Nat))],ax,_,rfl⟩
  | false=>
   refine br (fun _=>?_) (fun g=>absurd g (by simp;omega));exact ⟨.tup [.v (.int .i64 1),.v (.int .i64 ((1:Nat):Int))],ax,_,rfl⟩
mutual
def sameV:Val->Val->Bool
 | .mk k n s ks,.mk k' n' s' ks'=>decide (k=k') && decide (n=n') && decide (s=s') && sameVs ks ks'
def sameVs:List Val->List Val->Bool
 | [],[]=>true
 | v :: r,w :: q=>sameV v w && sameVs r q
 | _,_=>false
end
theorem sameVs_len:∀ {a b:List Val},a.length≠b.length->sameVs a b=false
 | [],[],h=>(h rfl).elim
 | v :: r,w :: q,h=>by rw [sameVs,sameVs_len (a:=r) (b:=q) (by simpa using h),Bool.and_false]
 | [],_ :: _,_=>by simp [sameVs]
 | _ :: _,[],_=>by simp [sameVs]
mutual
theorem sameV_iff:∀ {a b:Val},sameV a b=true↔a=b
 | .mk k n s ks,.mk k' n' s' ks'=>by
  have:=@sameVs_iff ks ks';simp only [sameV,Bool.and_eq_true,decide_eq_true_eq,this,Val.mk.injEq,and_assoc]
theorem sameVs_iff:∀ {a b:List Val},sameVs a b=true↔a=b
 | [],[]=>by simp [sameVs]
 | v :: r,w :: q=>by
  have h1:=@sameV_iff v w;have h2:=@sameVs_iff r q;simp only [sameVs,Bool.and_eq_true,h1,h2,List.cons.injEq]
 | [],_ :: _=>by simp [sameVs]
 | _ :: _,[]=>by simp [sameVs]
end
theorem sameV_refl (v:Val):sameV v v=true:=sameV_iff.2 rfl
abbrev eqvSt (a b:List Val) (g e:Nat):St:=
 ⟨[(1,⟨[],.sl 4 (dVals b) none⟩),(2,⟨[],.fn g [] []⟩),(15,⟨[],.sl 4 (dVals a) none⟩),(16,⟨[],.v (.int .i64 (dVals a).length)⟩),(17,⟨[],.v (.int .i64 e)⟩)],[],[]⟩
theorem equalV_spec (g:Nat) (hen:Enters Tryz.prog g) (a b:List Val) (hs:wtVs a<=1099511627776)
  (hF:∀ x∈a,∀ y,EvP Tryz.prog g [.agg (dVal x),.agg (dVal y)] (.v (.bool (sameV x y)))) :
  EvP Tryz.prog 115 [.sl 4 (dVals a) none,.sl 4 (dVals b) none,.fn g [] []] (.v (.bool (sameVs a b))):=by
 have hal:=wtVs_len a;have h1:=dVals_len a;have h2:=dVals_len b;refine ev_go (P:=Tryz.prog) tt tt_ok 5000 32 [.tmp 6] Tryz.func115 rfl Tryz.ntmps115 rfl (nL rfl) (fun E9 w9 hn9 hm9=>?_);refine br (fun h=>?_) (fun h=>?_)
 ·have hne:a.length≠b.length:=by have:=h;simp [h1,h2] at this;omega
  exact congrArg (fun b=>DV.v (.bool b)) (sameVs_len hne).symm
 ·have hl:a.length=b.length:=by have:=h;simp [h1,h2] at this;omega
  refine loop_i (fun j st=>∃ e:Nat,st=eqvSt a b g e/\e<=a.length/\sameVs a b=sameVs (a.drop e) (b.drop e)/\j=a.length - e) a.length
   (eqvSt a b g 0) (weak_mk ⟨_,rfl⟩ wA rfl rfl rfl wB) ⟨0,rfl,by omega,rfl,by omega⟩ ?_
  rintro j st ⟨e,rfl,he,heq,rfl⟩;refine br (fun h=>?_) (fun h=>?_)
  ·have hlt:e < a.length:=by simpa [h1] using h
   obtain ⟨x,hx⟩:∃ x,a[e]? = some x:=⟨_,gE hlt⟩;obtain ⟨y,hy⟩:∃ y,b[e]? = some y:=⟨_,gE (hl ▸ hlt)⟩;rw [drop_cons hx,drop_cons hy,sameVs] at heq;have hev:=hF x (mG hx) y;obtain ⟨xk,xn,xs,xl⟩:=x;obtain ⟨yk,yn,ys,yl⟩:=y;refine ⟨_,⟨by omega,dVals_get hx⟩,?_⟩;refine ⟨_,⟨by omega,dVals_get hy⟩,?_⟩;refine call_p hen hev ax rfl ?_;refine br (fun h=>?_) (fun h=>?_)
   ·have hne:sameV (.mk xk xn xs xl) (.mk yk yn ys yl)=false:=by simpa using h
    refine (congrArg (fun b=>DV.v (.bool b)) ?_:_=_);rw [heq,hne,Bool.false_and]
   ·have hne:sameV (.mk xk xn xs xl) (.mk yk yn ys yl)=true:=by simpa using h
    rw [hne,Bool.true_and] at heq;exact ⟨eqvSt a b g (e + 1),(weak_mk ⟨_,rfl⟩ wA rfl rfl rfl (wNB hlt)),a.length - (e + 1),by omega,e + 1,rfl,by omega,heq,rfl⟩
  ·have hge:e=a.length:=by have:=h;simp [h1] at this;omega
   rw [List.drop_of_length_le (by omega),List.drop_of_length_le (by omega)] at heq;refine (congrArg (fun b=>DV.v (.bool b)) ?_:_=_);rw [heq];simp [sameVs]
theorem tsame_spec:∀ (k:Nat) (a:Val),a.wt<=k->a.wt<=1099511627776->∀ b:Val,EvP Tryz.prog 40 [.agg (dVal a),.agg (dVal b)] (.v (.bool (sameV a b)))
 | 0,v,h,_=>by have:=v.wt_pos;omega
 | k + 1,.mk q n s ks,h,hb=>fun b=>by
  have ih:=tsame_spec k;rw [Val.wt] at h hb;obtain ⟨bk,bn,bs,bl⟩:=b
  have he:=equalV_spec 40 en40 ks bl (by omega) fun x hx y=>by
   have:=wtVs_mem hx;exact ih x (by omega) (by omega) y
  rw [sameV];refine ev_go (P:=Tryz.prog) tt tt_ok 5000 31 [.tmp 4] Tryz.func40 rfl Tryz.ntmps40 rfl (nL rfl) (fun E9 w9 hn9 hm9=>?_);refine br (fun c=>?_) (fun c=>?_)
  ·have c:pickB (pickB (decide (q=bk)) (decide (n=bn)) false) (decide (s=bs)) false=true:=by simpa using c
   refine call_p en115 (he) ax rfl ?_;refine (congrArg (fun b=>DV.v (.bool b)) ?_:_=_);simp only [pickB_and] at c ⊢;rw [c]
  ·have c:pickB (pickB (decide (q=bk)) (decide (n=bn)) false) (decide (s=bs)) false=false:=by simpa using c
   refine (congrArg (fun b=>DV.v (.bool b)) ?_:_=_);simp only [pickB_and] at c ⊢;rw [c];all_goals rfl
def leafF (n:Nd) (v:Val):Bool:=
 if 0 < v.ks.length∨(v.k≠3/\v.s≠emptyB)∨(v.k=3/\v.n≠0) then false
 else if n.kind=1 then decide (v.k=1) && (decide (v.n=0) || decide (v.n=1))
 else if n.kind=2 then decide (v.k=2) && decide (n.lo<=v.n) && decide (v.n<=n.hi)
 else if n.kind=3 then decide (v.k=3) && decide ((v.s.size:Int)<=n.most)
 else decide (v.k=4) && decide (0<=v.n) && decide (v.n < n.names.length)
def plainV (v:Val):Bool:=decide (v.s=emptyB) && (decide (v.n=0) || decide (v.k=8))
def to0 (n:Nd):Int:=match n.edges[0]? with | some e=>e.to | none=>0
def tagE (n:Nd) (v:Val):Option Ed:=if v.k=8/\0<=v.n/\v.n < n.edges.length then n.edges[v.n.toNat]? else none
def kidsL (n:Nd) (v:Val):List Int:=
 if n.kind=5∨n.kind=6 then List.replicate v.ks.length (to0 n)
 else if n.kind=7 then n.edges.map Ed.to
 else match tagE n v with | none=>[] | some e=>if e.bare=true then [] else [e.to]
def kidsB (n:Nd) (v:Val):Bool:=
 if n.kind=5∨n.kind=6 then plainV v && decide (v.k=n.kind) && decide ((v.ks.length:Int)<=if n.kind=6 then 1 else n.most)
 else if n.kind=7 then plainV v && decide (v.k=7) && decide (n.edges.length=v.ks.length)
 else match tagE n v with | none=>false | some _=>plainV v && decide ((kidsL n v).length=v.ks.length)
def nodeA (ND:List Nd) (i:Int):Option Nd:=if i < 0 then none else ND[i.toNat]?
mutual
def fitV (ND:List Nd):Val->Int->Bool
 | .mk k n s ks,i=>match nodeA ND i with
  | none=>false
  | some d=>if d.kind < 5 then leafF d (.mk k n s ks) else kidsB d (.mk k n s ks) && fitVs ND ks (kidsL d (.mk k n s ks))
def fitVs (ND:List Nd):List Val->List Int->Bool
 | v :: r,i :: l=>fitV ND v i && fitVs ND r l
 | _,_=>true
end
def toR (n:Nd) (v:Val) (j:Nat):Int:=
 if n.kind=5 then (if (j:Int) < n.most then to0 n else -1)
 else if n.kind=6 then (if j < 1 then to0 n else -1)
 else if n.kind=7 then (match n.edges[j]? with | some e=>e.to | none=>-1)
 else if n.kind=8 then (if j < 1/\0<=v.n/\v.n < n.edges.length then (match n.edges[v.n.toNat]? with | some e=>e.to | none=>-1) else -1)
 else -1
def dZs (l:List Int):List (List DV):=l.map fun z=>[DV.v (.int .i64 z)]
theorem dZs_len (l:List Int):(dZs l).length=l.length:=by simp [dZs]
theorem dZs_get {l:List Int} {i:Nat} {z:Int} (h:l[i]? = some z):(dZs l)[i]? = some [DV.v (.int .i64 z)]:=by simp [dZs,h]
theorem dZs_snoc (l:List Int) (z:Int):dZs l ++ [[DV.v (.int .i64 z)]]=dZs (l ++ [z]):=by simp [dZs]
theorem emptyB_eq:(⟨#[]⟩:ByteArray)=emptyB:=rfl
theorem leaf_spec (n:Nd) (v:Val):EvP Tryz.prog 109 [.agg (dNd n),.agg (dVal v)] (.v (.bool (leafF n v))):=by
 have hbl:=dBs_len n.names;obtain ⟨kind,at',lo,hi,most,names,es⟩:=n;obtain ⟨q,z,s,ks⟩:=v;have hdl:=dVals_len ks;simp only at hbl
 have hF:leafF ⟨kind,at',lo,hi,most,names,es⟩ (.mk q z s ks)=if 0 < ks.length∨(q≠3/\s≠emptyB)∨(q=3/\z≠0) then false
  else if kind=1 then decide (q=1) && (decide (z=0) || decide (z=1))
  else if kind=2 then decide (q=2) && decide (lo<=z) && decide (z<=hi)
  else if kind=3 then decide (q=3) && decide ((s.size:Int)<=most)
  else decide (q=4) && decide (0<=z) && decide (z < names.length):=rfl
 have hc:∀ b:Bool,b=pickB (pickB (decide (0 < ((dVals ks).length:Int))) true (pickB (!decide (q=3)) (!decide (s=⟨#[]⟩)) false)) true (pickB (decide (q=3)) (!decide (z=0)) false)->b=decide (0 < ks.length∨(q≠3/\s≠emptyB)∨(q=3/\z≠0)):=fun b h=>by
  rw [h,hdl,emptyB_eq,Bool.eq_iff_iff];simp [pickB_or,pickB_and,or_assoc]
 rw [hF];refine ev_go (P:=Tryz.prog) tt tt_ok 5000 94 [.tmp 4] Tryz.func109 rfl Tryz.ntmps109 rfl (nL rfl) (fun E9 w9 hn9 hm9=>?_);refine br (fun c=>?_) (fun c=>?_)
 ·have c:=of_decide_eq_true ((hc _ rfl).symm.trans c);rw [if_pos c];exact (rfl:_=_)
 have c:=of_decide_eq_false ((hc _ rfl).symm.trans c);rw [if_neg c];refine br (fun c1=>?_) (fun c1=>?_)
 ·have c1:kind=1:=by simpa using c1
  refine (congrArg (fun b=>DV.v (.bool b)) ?_:_=_);simp [c1,pickB_and,pickB_or]
 have c1:¬ kind=1:=by simpa using c1
 refine br (fun c2=>?_) (fun c2=>?_)
 ·have c2:kind=2:=by simpa using c2
  refine (congrArg (fun b=>DV.v (.bool b)) ?_:_=_);simp [c2,pickB_and,pickB_or]
 have c2:¬ kind=2:=by simpa using c2
 refine br (fun c3=>?_) (fun c3=>?_)
 ·have c3:kind=3:=by simpa using c3
  refine (congrArg (fun b=>DV.v (.bool b)) ?_:_=_);simp [c3,pickB_and,pickB_or]
 have c3:¬ kind=3:=by simpa using c3
 refine (congrArg (fun b=>DV.v (.bool b)) ?_:_=_);simp [c1,c2,c3,pickB_and,pickB_or,hbl]
abbrev kd5St (n:Nd) (v:Val) (l:List Int) (p:Bool) (kd mo:Int) (q e:Nat):St:=
 ⟨[(2,⟨[],.loc 0 0⟩),(3,⟨[],.loc 1 0⟩),(6,⟨[],.sl 1 (dZs l) (some 0)⟩),(7,⟨[],.v (.bool p)⟩),(8,⟨[],.v (.int .i64 kd)⟩),(9,⟨[],.v (.int .i64 mo)⟩),(38,⟨[],.v (.int .i64 v.ks.length)⟩),(39,⟨[],.v (.int .i64 e)⟩)],[dNd n,dVal v],[⟨q,3,1,none⟩]⟩
abbrev kd7St (n:Nd) (v:Val) (l:List Int) (p:Bool) (q e:Nat):St:=
 ⟨[(2,⟨[],.loc 0 0⟩),(3,⟨[],.loc 1 0⟩),(6,⟨[],.sl 1 (dZs l) (some 0)⟩),(7,⟨[],.v (.bool p)⟩),(67,⟨[],.sl 10 (dEds n.edges) none⟩),(68,⟨[],.v (.int .i64 (dEds n.edges).length)⟩),(69,⟨[],.v (.int .i64 e)⟩)],[dNd n,dVal v],[⟨q,3,1,none⟩]⟩
theorem kids_spec {L N:Nat} {n:Nd} (hn:NdOK L N n) (h5:5<=n.kind) (v:Val) (hv:v.wt<=1099511627776) :
  EvP Tryz.prog 110 [.agg (dNd n),.agg (dVal v)] (.tup [.sl 1 (dZs (kidsL n v)) none,.v (.bool (kidsB n v))]):=by
 have hk8:=hn.k8;have hone:=hn.one;have hmany:=hn.many;obtain ⟨kind,at',lo,hi,most,names,es⟩:=n;obtain ⟨q,z,s,ks⟩:=v;have hdl:=dVals_len ks;have hel:=dEds_len es;have hkl:=wtVs_len ks;rw [Val.wt] at hv;simp only at hk8 h5 hone hmany
 have hp:∀ b:Bool,b=pickB (decide (s=⟨#[]⟩)) (pickB (decide (z=0)) true (decide (q=8))) false->b=plainV (.mk q z s ks):=fun b h=>by
  rw [h];rw [pickB_and,pickB_or,emptyB_eq];all_goals rfl
 refine ev_go (P:=Tryz.prog) tt tt_ok 5000 134 [.tmp 4,.tmp 5] Tryz.func110 rfl Tryz.ntmps110 rfl (nL rfl) (fun E9 w9 hn9 hm9=>?_);refine br (fun c=>?_) (fun c=>?_)
 ·have c:kind=5:=by simpa using c
  have c56:kind=5∨kind=6:=.inl c;obtain ⟨x,hes,_,_⟩:=hone c56;refine br (fun _=>?_) (fun h=>absurd h (by simp [c]));refine drawG_i (fun _=>false) mo (by decide +kernel) ?_;refine br (fun h=>absurd h (by simp [c])) (fun _=>?_);obtain ⟨kd,mo,h1,h2,h3,h4⟩:∃ kd mo:Int,5=kd/\most=mo/\kd=kind/\mo=(if kind=6 then 1 else most):=⟨5,most,rfl,rfl,c.symm,by rw [if_neg (by omega)]⟩;have hg0:(dEds es)[0]? = some (dEd x):=by rw [hes];all_goals rfl
  have ht0:to0 ⟨kind,at',lo,hi,most,names,es⟩=x.to:=by simp [to0,hes]
  refine loop_i (fun j st=>∃ e:Nat,st=kd5St ⟨kind,at',lo,hi,most,names,es⟩ (.mk q z s ks) (List.replicate e x.to) (plainV (.mk q z s ks)) kd mo e e/\e<=ks.length/\j=ks.length - e) ks.length (kd5St ⟨kind,at',lo,hi,most,names,es⟩ (.mk q z s ks) [] (plainV (.mk q z s ks)) kd mo 0 0) (weak_bt 2 ⟨0,3,1,none⟩ rfl rfl rfl (by repeat' (first | exact rfl | exact we_rfl rfl | exact we_bool (hp _ rfl) | exact we_int h1 | exact we_int h2 | exact we_int (congrArg Nat.cast hdl) | exact we_tok (Nat.le_refl _) rfl | exact we_tok (Nat.le_refl _) rfl | refine ⟨_,_,rfl,?_,?_⟩)) rfl rfl (by repeat' (first | exact trivial | exact we_rfl rfl | exact we_bool (hp _ rfl) | exact we_int h1 | exact we_int h2 | exact we_int (congrArg Nat.cast hdl) | exact we_tok (Nat.le_refl _) rfl | refine ⟨⟨_,rfl,?_⟩,?_⟩))) ⟨0,rfl,by omega,by omega⟩ ?_;rintro j st ⟨e,rfl,he,rfl⟩;refine br (fun hL=>?_) (fun hL=>?_)
  ·have hlt:e < ks.length:=by have:=hL;simp [Val.ks] at this;exact this
   have hml:(dZs (List.replicate e x.to)).length=e:=by rw [dZs_len,List.length_replicate]
   have hsn:dZs (List.replicate e x.to) ++ [[DV.v (.int .i64 x.to)]]=dZs (List.replicate (e + 1) x.to):=by rw [dZs_snoc,List.replicate_succ']
   refine ⟨_,⟨by omega,hg0⟩,?_⟩;refine ⟨hml,⟨by rw [hml];simp [maxLen];omega,by rw [hml];simp;omega⟩,?_⟩;exact ⟨kd5St ⟨kind,at',lo,hi,most,names,es⟩ (.mk q z s ks) (List.replicate (e + 1) x.to) (plainV (.mk q z s ks)) kd mo (e + 1) (e + 1),(weak_b 2 rfl (wSA hlt hsn) rfl rfl rfl (wSB hlt hsn)),ks.length - (e + 1),by omega,e + 1,rfl,by omega,rfl⟩
  ·have hge:e=ks.length:=by have:=hL;simp [Val.ks] at this;omega
   subst hge;have hkl2:kidsL ⟨kind,at',lo,hi,most,names,es⟩ (.mk q z s ks)=List.replicate ks.length x.to:=by unfold kidsL;rw [if_pos c56,ht0];all_goals rfl
   have hml:(dZs (List.replicate ks.length x.to)).length=ks.length:=by rw [dZs_len,List.length_replicate]
   have hB:pickB (pickB (plainV (.mk q z s ks)) (decide (q=kd)) false) (decide (((dZs (List.replicate ks.length x.to)).length:Int)<=mo)) false=kidsB ⟨kind,at',lo,hi,most,names,es⟩ (.mk q z s ks):=by
    rw [hml,h3,h4,pickB_and,pickB_and];unfold kidsB;rw [if_pos c56];rfl
   rw [hkl2];exact ⟨_,(aB hB),rfl⟩
 have c5:¬ kind=5:=by simpa using c
 refine br (fun c=>?_) (fun c=>?_)
 ·have c:kind=6:=by simpa using c
  have c56:kind=5∨kind=6:=.inr c;obtain ⟨x,hes,_,_⟩:=hone c56;refine drawG_i (fun _=>false) mo (by decide +kernel) ?_;refine br (fun _=>?_) (fun h=>absurd h (by simp [c]));obtain ⟨kd,mo,h1,h2,h3,h4⟩:∃ kd mo:Int,6=kd/\1=mo/\kd=kind/\mo=(if kind=6 then 1 else most):=⟨6,1,rfl,rfl,c.symm,by rw [if_pos c]⟩;have hg0:(dEds es)[0]? = some (dEd x):=by rw [hes];all_goals rfl
  have ht0:to0 ⟨kind,at',lo,hi,most,names,es⟩=x.to:=by simp [to0,hes]
  refine loop_i (fun j st=>∃ e:Nat,st=kd5St ⟨kind,at',lo,hi,most,names,es⟩ (.mk q z s ks) (List.replicate e x.to) (plainV (.mk q z s ks)) kd mo e e/\e<=ks.length/\j=ks.length - e) ks.length (kd5St ⟨kind,at',lo,hi,most,names,es⟩ (.mk q z s ks) [] (plainV (.mk q z s ks)) kd mo 0 0) (weak_bt 2 ⟨0,3,1,none⟩ rfl rfl rfl (by repeat' (first | exact rfl | exact we_rfl rfl | exact we_bool (hp _ rfl) | exact we_int h1 | exact we_int h2 | exact we_int (congrArg Nat.cast hdl) | exact we_tok (Nat.le_refl _) rfl | exact we_tok (Nat.le_refl _) rfl | refine ⟨_,_,rfl,?_,?_⟩)) rfl rfl (by repeat' (first | exact trivial | exact we_rfl rfl | exact we_bool (hp _ rfl) | exact we_int h1 | exact we_int h2 | exact we_int (congrArg Nat.cast hdl) | exact we_tok (Nat.le_refl _) rfl | refine ⟨⟨_,rfl,?_⟩,?_⟩))) ⟨0,rfl,by omega,by omega⟩ ?_;rintro j st ⟨e,rfl,he,rfl⟩;refine br (fun hL=>?_) (fun hL=>?_)
  ·have hlt:e < ks.length:=by have:=hL;simp [Val.ks] at this;exact this
   have hml:(dZs (List.replicate e x.to)).length=e:=by rw [dZs_len,List.length_replicate]
   have hsn:dZs (List.replicate e x.to) ++ [[DV.v (.int .i64 x.to)]]=dZs (List.replicate (e + 1) x.to):=by rw [dZs_snoc,List.replicate_succ']
   refine ⟨_,⟨by omega,hg0⟩,?_⟩;refine ⟨hml,⟨by rw [hml];simp [maxLen];omega,by rw [hml];simp;omega⟩,?_⟩;exact ⟨kd5St ⟨kind,at',lo,hi,most,names,es⟩ (.mk q z s ks) (List.replicate (e + 1) x.to) (plainV (.mk q z s ks)) kd mo (e + 1) (e + 1),(weak_b 2 rfl (wSA hlt hsn) rfl rfl rfl (wSB hlt hsn)),ks.length - (e + 1),by omega,e + 1,rfl,by omega,rfl⟩
  ·have hge:e=ks.length:=by have:=hL;simp [Val.ks] at this;omega
   subst hge;have hkl2:kidsL ⟨kind,at',lo,hi,most,names,es⟩ (.mk q z s ks)=List.replicate ks.length x.to:=by unfold kidsL;rw [if_pos c56,ht0];all_goals rfl
   have hml:(dZs (List.replicate ks.length x.to)).length=ks.length:=by rw [dZs_len,List.length_replicate]
   have hB:pickB (pickB (plainV (.mk q z s ks)) (decide (q=kd)) false) (decide (((dZs (List.replicate ks.length x.to)).length:Int)<=mo)) false=kidsB ⟨kind,at',lo,hi,most,names,es⟩ (.mk q z s ks):=by
    rw [hml,h3,h4,pickB_and,pickB_and];unfold kidsB;rw [if_pos c56];rfl
   rw [hkl2];exact ⟨_,(aB hB),rfl⟩
 have c6:¬ kind=6:=by simpa using c
 obtain ⟨hm64,hm8,_,_⟩:=hmany (by omega);refine br (fun c=>?_) (fun c=>?_)
 ·have c7:kind=7:=by simpa using c
  refine loop_i (fun j st=>∃ e:Nat,st=kd7St ⟨kind,at',lo,hi,most,names,es⟩ (.mk q z s ks) ((es.take e).map Ed.to) (plainV (.mk q z s ks)) e e/\e<=es.length/\j=es.length - e) es.length (kd7St ⟨kind,at',lo,hi,most,names,es⟩ (.mk q z s ks) [] (plainV (.mk q z s ks)) 0 0) (weak_bt 2 ⟨0,3,1,none⟩ rfl rfl rfl (by repeat' (first | exact rfl | exact we_rfl rfl | exact we_bool (hp _ rfl) | exact we_tok (Nat.le_refl _) rfl | exact we_tok (Nat.le_refl _) rfl | refine ⟨_,_,rfl,?_,?_⟩)) rfl rfl (by repeat' (first | exact trivial | exact we_rfl rfl | exact we_bool (hp _ rfl) | exact we_tok (Nat.le_refl _) rfl | refine ⟨⟨_,rfl,?_⟩,?_⟩))) ⟨0,rfl,by omega,by omega⟩ ?_;rintro j st ⟨e,rfl,he,rfl⟩;refine br (fun hL=>?_) (fun hL=>?_)
  ·have hlt:e < es.length:=by have:=hL;simp [hel] at this;exact this
   obtain ⟨x,hx⟩:∃ x,es[e]? = some x:=⟨_,gE hlt⟩;have hml:(dZs ((es.take e).map Ed.to)).length=e:=by rw [dZs_len,List.length_map,List.length_take];omega
   have hsn:dZs ((es.take e).map Ed.to) ++ [[DV.v (.int .i64 x.to)]]=dZs ((es.take (e + 1)).map Ed.to):=by rw [dZs_snoc,take_snoc hx,List.map_append];all_goals rfl
   refine ⟨_,⟨by omega,dEds_get hx⟩,?_⟩;refine ⟨hml,⟨by rw [hml];simp [maxLen];omega,by rw [hml];simp;omega⟩,?_⟩;exact ⟨kd7St ⟨kind,at',lo,hi,most,names,es⟩ (.mk q z s ks) ((es.take (e + 1)).map Ed.to) (plainV (.mk q z s ks)) (e + 1) (e + 1),(weak_b 2 rfl (wSA hlt hsn) rfl rfl rfl (wSB hlt hsn)),es.length - (e + 1),by omega,e + 1,rfl,by omega,rfl⟩
  ·have hge:e=es.length:=by have:=hL;simp [hel] at this;omega
   subst hge;rw [List.take_length];have hkl2:kidsL ⟨kind,at',lo,hi,most,names,es⟩ (.mk q z s ks)=es.map Ed.to:=by unfold kidsL;rw [if_neg (by simp only;omega),if_pos c7]
   have hml:(dZs (es.map Ed.to)).length=es.length:=by rw [dZs_len,List.length_map]
   have hB:pickB (pickB (plainV (.mk q z s ks)) (decide (q=7)) false) (decide (((dZs (es.map Ed.to)).length:Int)=((dVals ks).length:Int))) false=kidsB ⟨kind,at',lo,hi,most,names,es⟩ (.mk q z s ks):=by
    rw [hml,hdl,pickB_and,pickB_and];unfold kidsB;rw [if_neg (by simp only;omega),if_pos c7];have:((es.length:Int)=(ks.length:Int))↔es.length=ks.length:=by omega
    simp only [this,Val.k,Val.ks];rfl
   rw [hkl2];refine drawG_i (fun _=>false) mo (by decide +kernel) ?_;exact ⟨_,(aB hB),rfl⟩
 have c7:¬ kind=7:=by simpa using c
 have hkl2:kidsL ⟨kind,at',lo,hi,most,names,es⟩ (.mk q z s ks)=(match tagE ⟨kind,at',lo,hi,most,names,es⟩ (.mk q z s ks) with | none=>[] | some e=>if e.bare=true then [] else [e.to]):=by unfold kidsL;rw [if_neg (by simp only;omega),if_neg c7];all_goals rfl
 have hkb2:kidsB ⟨kind,at',lo,hi,most,names,es⟩ (.mk q z s ks)=(match tagE ⟨kind,at',lo,hi,most,names,es⟩ (.mk q z s ks) with | none=>false | some _=>plainV (.mk q z s ks) && decide ((kidsL ⟨kind,at',lo,hi,most,names,es⟩ (.mk q z s ks)).length=ks.length)):=by unfold kidsB;rw [if_neg (by simp only;omega),if_neg c7];all_goals rfl
 have hc:∀ b:Bool,b=pickB (pickB (!decide (q=8)) true (decide (z < 0))) true (decide (((dEds es).length:Int)<=z))->b = !decide (q=8/\0<=z/\z < es.length):=fun b h=>by
  rw [h,hel,pickB_or,pickB_or,Bool.eq_iff_iff];simp;omega
 refine br (fun c=>?_) (fun c=>?_)
 ·have c:¬ (q=8/\0<=z/\z < es.length):=by have:=(hc _ rfl).symm.trans c;simpa only [Bool.not_eq_true',decide_eq_false_iff_not] using this
  have ht:tagE ⟨kind,at',lo,hi,most,names,es⟩ (.mk q z s ks)=none:=by show (if q=8/\0<=z/\z < es.length then es[z.toNat]? else none)=_;rw [if_neg c]
  rw [hkb2,hkl2,ht];exact ⟨_,ax,rfl⟩
 ·have c:q=8/\0<=z/\z < es.length:=by have:=(hc _ rfl).symm.trans c;simpa only [Bool.not_eq_false',decide_eq_true_eq] using this
  obtain ⟨x,hx⟩:∃ x,es[z.toNat]? = some x:=⟨_,gE (by omega)⟩;have ht:tagE ⟨kind,at',lo,hi,most,names,es⟩ (.mk q z s ks)=some x:=by show (if q=8/\0<=z/\z < es.length then es[z.toNat]? else none)=_;rw [if_pos c];exact hx
  rw [ht] at hkb2 hkl2;refine ⟨_,⟨by omega,dEds_get hx⟩,?_⟩;refine br (fun hb=>?_) (fun hb=>?_)
  ·have hb:x.bare=false:=by simpa using hb
   have hkl3:kidsL ⟨kind,at',lo,hi,most,names,es⟩ (.mk q z s ks)=[x.to]:=by rw [hkl2];simp [hb]
   have hB:pickB (plainV (.mk q z s ks)) (decide ((1:Int)=((dVals ks).length:Int))) false=kidsB ⟨kind,at',lo,hi,most,names,es⟩ (.mk q z s ks):=by
    rw [hkb2,hkl3,hdl,pickB_and];have:((1:Int)=(ks.length:Int)) ↔ [x.to].length=ks.length:=by simp;omega
    simp only [this]
   rw [hkl3,<- hB];refine ⟨⟨by simp [maxLen],by simp⟩,?_⟩;refine drawG_i (fun _=>false) mo (by decide +kernel) ?_;exact ⟨_,(by repeat' (first | exact rfl | exact trivial | exact Or.inr (Or.inl ⟨_,rfl⟩) | exact Or.inr ⟨_,rfl⟩ | exact Or.inl ⟨rfl,rfl⟩ | exact Or.inl rfl | refine Or.inr ⟨_,_,rfl,Nat.zero_le _,rfl,?_⟩ | refine ⟨_,_,rfl,?_,?_⟩ | refine ⟨_,rfl,?_⟩ | exact congrArg (fun b=>DV.v (.bool (pickB b _ false))) (hp _ rfl) | refine Or.inr (Or.inr (Or.inr ⟨_,_,rfl,?_⟩)) | exact Or.inl rfl | refine Or.inr ?_)),rfl⟩
  ·have hb:x.bare=true:=by simpa using hb
   have hkl3:kidsL ⟨kind,at',lo,hi,most,names,es⟩ (.mk q z s ks)=[]:=by rw [hkl2];simp [hb]
   have hB:pickB (plainV (.mk q z s ks)) (decide ((0:Int)=((dVals ks).length:Int))) false=kidsB ⟨kind,at',lo,hi,most,names,es⟩ (.mk q z s ks):=by
    rw [hkb2,hkl3,hdl,pickB_and];have:((0:Int)=(ks.length:Int))↔([]:List Int).length=ks.length:=by simp;omega
    simp only [this]
   rw [hkl3,<- hB];refine drawG_i (fun _=>false) mo (by decide +kernel) ?_;exact ⟨_,(by repeat' (first | exact rfl | exact trivial | exact Or.inr (Or.inl ⟨_,rfl⟩) | exact Or.inr ⟨_,rfl⟩ | exact Or.inl ⟨rfl,rfl⟩ | exact Or.inl rfl | refine Or.inr ⟨_,_,rfl,Nat.zero_le _,rfl,?_⟩ | refine ⟨_,_,rfl,?_,?_⟩ | refine ⟨_,rfl,?_⟩ | exact congrArg (fun b=>DV.v (.bool (pickB b _ false))) (hp _ rfl) | refine Or.inr (Or.inr (Or.inr ⟨_,_,rfl,?_⟩)) | exact Or.inl rfl | refine Or.inr ?_)),rfl⟩
theorem kidsB_len {n:Nd} {v:Val} (hk:5<=n.kind) (h:kidsB n v=true):(kidsL n v).length=v.ks.length:=by
 unfold kidsB at h;by_cases c:n.kind=5∨n.kind=6
 ·unfold kidsL;rw [if_pos c];simp
 rw [if_neg c] at h;by_cases c7:n.kind=7
 ·rw [if_pos c7] at h;unfold kidsL;rw [if_neg c,if_pos c7,List.length_map];simp at h;exact h.2
 rw [if_neg c7] at h
 cases ht:tagE n v with
 | none=>rw [ht] at h;cases h
 | some e=>rw [ht] at h;simp only [Bool.and_eq_true,decide_eq_true_eq] at h;exact h.2
theorem fitVs_drop {ND:List Nd} {ks:List Val} {l:List Int} {e:Nat} {x:Val} {i:Int} (h1:ks[e]? = some x) (h2:l[e]? = some i):fitVs ND (ks.drop e) (l.drop e)=(fitV ND x i && fitVs ND (ks.drop (e + 1)) (l.drop (e + 1))):=by
 rw [drop_cons h1,drop_cons h2,fitVs]
theorem nodeA_some {ND:List Nd} {i:Int} {d:Nd} (h:nodeA ND i=some d):0<=i/\ND[i.toNat]? = some d:=by
 unfold nodeA at h;split at h
 ·cases h
 ·exact ⟨by omega,h⟩
theorem nodeA_none {ND:List Nd} {i:Int} (h:nodeA ND i=none):i < 0∨(ND.length:Int)<=i:=by
 unfold nodeA at h;split at h
 ·left;assumption
 ·right;have:=List.getElem?_eq_none_iff.1 h;omega
abbrev tfSt (PC:List DV) (v:Val) (l:List Int) (e:Nat):St:=
 ⟨[(0,⟨[],.pt PC 0⟩),(5,⟨[],.loc 0 0⟩),(36,⟨[],.sl 1 (dZs l) none⟩),(37,⟨[],.v (.int .i64 l.length)⟩),(38,⟨[],.v (.int .i64 e)⟩)],[dVal v],[]⟩
theorem tfits_spec {S:Sch} {ND:List Nd} {PC:List DV} (hP:PlanR S ND PC):∀ (k:Nat) (v:Val),v.wt<=k->v.wt<=1099511627776->∀ i:Int,EvP Tryz.prog 36 [.pt PC 0,.v (.int .i64 i),.agg (dVal v)] (.v (.bool (fitV ND v i)))
 | 0,v,h,_=>by have:=v.wt_pos;omega
 | k + 1,.mk q z s ks,h,hb=>fun i=>by
  have ih:=tfits_spec hP k;have hkl:=wtVs_len ks;have hdl:=dVals_len ks;have hb':=hb;rw [Val.wt] at h hb;rw [fitV];have hnode:=hP.node;have hnodeN:=hP.nodeN;have hok:=hP.ok
  cases hd:nodeA ND i with
  | none=>
   refine ev_go (P:=Tryz.prog) tt tt_ok 5000 53 [.tmp 6] Tryz.func36 rfl Tryz.ntmps36 rfl (nL rfl) (fun E9 w9 hn9 hm9=>?_);refine call_p en100 (hnodeN i (nodeA_none hd)) ax rfl ?_;exact (rfl:_=_)
  | some d=>
   obtain ⟨h0,hg⟩:=nodeA_some hd;obtain ⟨j,rfl⟩:∃ j:Nat,i=j:=⟨i.toNat,by omega⟩;have hg:ND[j]? = some d:=by simpa using hg
   have hN:=hok d (mG hg);have hlf:=leaf_spec d (.mk q z s ks);have hkd:=fun h5=>kids_spec hN h5 (.mk q z s ks) hb';have hlen:=fun h5=>kidsB_len (n:=d) (v:=.mk q z s ks) h5;simp only;obtain ⟨kind,at',lo,hi,most,names,es⟩:=d;simp only at hkd hlen;refine ev_go (P:=Tryz.prog) tt tt_ok 5000 53 [.tmp 6] Tryz.func36 rfl Tryz.ntmps36 rfl (nL rfl) (fun E9 w9 hn9 hm9=>?_);refine call_p en100 (hnode j _ hg) ax rfl ?_;refine br (fun c=>?_) (fun c=>?_)
   ·have c:kind < 5:=by simpa using c
    rw [if_pos c];refine call_p en109 (hlf) ax rfl ?_;exact (rfl:_=_)
   have c:¬ kind < 5:=by simpa using c
   rw [if_neg c];have hkd:=hkd (by omega);have hlen:=hlen (by omega);generalize kidsL ⟨kind,at',lo,hi,most,names,es⟩ (.mk q z s ks)=l at hkd hlen ⊢;have hzl:=dZs_len l;refine call_p en110 (hkd) ax rfl ?_
   cases hB:kidsB ⟨kind,at',lo,hi,most,names,es⟩ (.mk q z s ks) with
   | false=>
    exact (rfl:_=_)
   | true=>
    have hlen:l.length=ks.length:=hlen hB;rw [Bool.true_and];refine loop_i (fun j st=>∃ e:Nat,st=tfSt PC (.mk q z s ks) l e/\e<=l.length/\fitVs ND ks l=fitVs ND (ks.drop e) (l.drop e)/\j=l.length - e) l.length (tfSt PC (.mk q z s ks) l 0) (weak_mk ⟨_,rfl⟩ wA rfl rfl rfl (by repeat' (first | exact trivial | exact we_rfl rfl | exact we_int (congrArg Nat.cast hzl) | refine ⟨⟨_,rfl,?_⟩,?_⟩))) ⟨0,rfl,by omega,rfl,by omega⟩ ?_;rintro _ st ⟨e,rfl,he,heq,rfl⟩;refine br (fun hL=>?_) (fun hL=>?_)
    ·have hlt:e < l.length:=by have:=hL;simp at this;exact this
     obtain ⟨x,hx⟩:∃ x,ks[e]? = some x:=⟨_,gE (by omega)⟩;obtain ⟨y,hy⟩:∃ y,l[e]? = some y:=⟨_,gE hlt⟩;have hxw:=wtVs_mem (mG hx);rw [fitVs_drop hx hy] at heq;have hi':=ih x (by omega) (by omega) y;obtain ⟨xk,xn,xs,xl⟩:=x;refine ⟨_,⟨by omega,dZs_get hy⟩,?_⟩;refine ⟨_,⟨by omega,dVals_get hx⟩,?_⟩;refine call_p en36 (hi') ax rfl ?_;refine br (fun g=>?_) (fun g=>?_)
     ·have g:fitV ND (.mk xk xn xs xl) y=false:=by simpa using g
      rw [heq,g];exact (rfl:_=_)
     ·have g:fitV ND (.mk xk xn xs xl) y=true:=by simpa using g
      rw [g,Bool.true_and] at heq;exact ⟨tfSt PC (.mk q z s ks) l (e + 1),(weak_mk ⟨_,rfl⟩ wA rfl rfl rfl (wNB hlt)),l.length - (e + 1),by omega,e + 1,rfl,by omega,heq,rfl⟩
    ·have hge:e=l.length:=by have:=hL;simp at this;omega
     rw [List.drop_of_length_le (by omega),List.drop_of_length_le (by omega)] at heq;rw [heq];exact (rfl:_=_)
structure FitF (ND:List Nd) (v:Val) (i:Int) (d:Nd):Prop where
 node:nodeA ND i=some d
 k:v.k=d.kind
 leaf:d.kind < 5->v.ks=[]
 enum:d.kind=4->0<=v.n/\v.n < d.names.length
 kids:5<=d.kind->(kidsL d v).length=v.ks.length/\fitVs ND v.ks (kidsL d v)=true
 tag:d.kind=8->∃ e,tagE d v=some e/\d.edges[v.n.toNat]? = some e/\0<=v.n/\v.n < d.edges.length/\(e.bare=true↔v.ks=[])
 opt:d.kind=6->v.ks.length<=1
theorem fit_facts {L:Nat} {ND:List Nd} (hok:∀ n∈ND,NdOK L ND.length n) {v:Val} {i:Int} (h:fitV ND v i=true):∃ d,FitF ND v i d:=by
 obtain ⟨k,n,s,ks⟩:=v;rw [fitV] at h
 cases hd:nodeA ND i with
 | none=>rw [hd] at h;cases h
 | some d=>
  rw [hd] at h;simp only at h;have hN:=hok d (mG (nodeA_some hd).2);have hk1:=hN.k1;have hk8:=hN.k8;by_cases h5:d.kind < 5
  ·rw [if_pos h5] at h;unfold leafF at h;by_cases hc:0 < (Val.mk k n s ks).ks.length∨((Val.mk k n s ks).k≠3/\(Val.mk k n s ks).s≠emptyB)∨((Val.mk k n s ks).k=3/\(Val.mk k n s ks).n≠0)
   ·rw [if_pos hc] at h;cases h
   rw [if_neg hc] at h
   have hnil:ks=[]:=by
    cases ks with
    | nil=>rfl
    | cons a b=>exact (hc (.inl (by simp [Val.ks]))).elim
   have hk:k=d.kind/\(d.kind=4->0<=n/\n < d.names.length):=by
    rcases (show d.kind=1∨d.kind=2∨d.kind=3∨d.kind=4 by omega) with c | c | c | c
    all_goals
     simp [c,Val.k,Val.n] at h;simp only [c];constructor
     ·first | exact of_decide_eq_true h.1 | exact of_decide_eq_true h.1.1
     ·first | (intro;omega) | exact fun _=>⟨of_decide_eq_true h.1.2,of_decide_eq_true h.2⟩
   exact ⟨d,{ node:=hd,k:=hk.1,leaf:=fun _=>hnil,enum:=hk.2,kids:=fun h=>by omega,tag:=fun h=>by omega,opt:=fun h=>by omega }⟩
  ·rw [if_neg h5,Bool.and_eq_true] at h;obtain ⟨hB,hf⟩:=h;have hlen:=kidsB_len (by omega) hB;have hB2:=hB;unfold kidsB at hB;by_cases c:d.kind=5∨d.kind=6
   ·rw [if_pos c] at hB;simp only [Bool.and_eq_true,decide_eq_true_eq] at hB;exact ⟨d,{ node:=hd,k:=hB.1.2,leaf:=fun h=>by omega,enum:=fun h=>by omega,kids:=fun _=>⟨hlen,hf⟩,tag:=fun h=>by omega,opt:=fun h=>by have:=hB.2;rw [if_pos h] at this;omega }⟩
   rw [if_neg c] at hB;by_cases c7:d.kind=7
   ·rw [if_pos c7] at hB;simp only [Bool.and_eq_true,decide_eq_true_eq] at hB;exact ⟨d,{ node:=hd,k:=by rw [c7];exact hB.1.2,leaf:=fun h=>by omega,enum:=fun h=>by omega,kids:=fun _=>⟨hlen,hf⟩,tag:=fun h=>by omega,opt:=fun h=>by omega }⟩
   rw [if_neg c7] at hB
   cases ht:tagE d (.mk k n s ks) with
   | none=>rw [ht] at hB;cases hB
   | some e=>
    have ht2:=ht;unfold tagE at ht2;split at ht2
    ·rename_i hr;have hkl:kidsL d (.mk k n s ks)=if e.bare=true then [] else [e.to]:=by unfold kidsL;rw [if_neg c,if_neg c7,ht]
     refine ⟨d,{ node:=hd,k:=by have:=hr.1;omega,leaf:=fun h=>by omega,enum:=fun h=>by omega,kids:=fun _=>⟨hlen,hf⟩,tag:=fun _=>⟨e,ht,ht2,hr.2.1,hr.2.2,?_⟩,opt:=fun h=>by omega }⟩;rw [hkl] at hlen;constructor
     ·intro hb;rw [if_pos hb] at hlen;exact List.eq_nil_of_length_eq_zero hlen.symm
     ·intro hnil;rw [hnil] at hlen;cases hb:e.bare
      ·rw [hb] at hlen;simp at hlen
      ·rfl
    ·cases ht2
theorem fitVs_at {ND:List Nd}:∀ {ks:List Val} {l:List Int} {e:Nat} {x:Val} {i:Int},fitVs ND ks l=true->ks[e]? = some x->l[e]? = some i->fitV ND x i=true
 | [],_,e,x,i,_,h,_=>by simp at h
 | _ :: _,[],e,x,i,_,_,h=>by simp at h
 | v :: r,j :: l,0,x,i,h,h1,h2=>by
  simp only [List.getElem?_cons_zero,oI] at h1 h2;subst h1 h2;rw [fitVs,Bool.and_eq_true] at h;exact h.1
 | v :: r,j :: l,e + 1,x,i,h,h1,h2=>by
  simp only [List.getElem?_cons_succ] at h1 h2;rw [fitVs,Bool.and_eq_true] at h;exact fitVs_at h.2 h1 h2
structure Stp where
 k:Int
 n:Int
 s:ByteArray
def dStp (x:Stp):List DV:=[.v (.int .i64 x.k),.v (.int .i64 x.n),.v (.string x.s)]
def dStps (l:List Stp):List (List DV):=l.map dStp
theorem dStps_len (l:List Stp):(dStps l).length=l.length:=by simp [dStps]
theorem dStps_get {l:List Stp} {e:Nat} {x:Stp} (h:l[e]? = some x):(dStps l)[e]? = some (dStp x):=by simp [dStps,h]
def stpE (a b:Stp):Bool:=decide (a.k=b.k) && (decide (a.n=b.n) && decide (a.s=b.s))
theorem stpE_iff {a b:Stp}:stpE a b=true↔a=b:=by
 obtain ⟨k,n,s⟩:=a;obtain ⟨k',n',s'⟩:=b;simp only [stpE,Bool.and_eq_true,decide_eq_true_eq,Stp.mk.injEq]
def stpA (a:Stp):Array Value:=#[.int .i64 a.k,.int .i64 a.n,.string a.s]
theorem stp_equal (a b:Stp) (w:World):(Op.equal 188 (.agg (stpA a)) (.agg (stpA b))).run Tryz.prog w = .ok (stpE a b) w:=by
 have hf:Tryz.prog.underlying 188=some (.struct (Tryz.prog.fieldsOf 188)):=by simp [Program.fieldsOf,Tryz.underlying188]
 have hf2:(Tryz.prog.fieldsOf 188).toList=[⟨ "Kind",3,0,false, "", "",0⟩,⟨ "N",3,1,false, "", "",8⟩,⟨ "Name",9,2,false, "", "",16⟩]:=by simp [Program.fieldsOf,Tryz.underlying188]
 have hs:Tryz.prog.stoodInHeld 188=false:=by kernel_rfl
 obtain ⟨d,hm⟩:∃ d,Op.maxDepth=d + 1 + 1:=⟨Op.maxDepth - 2,by decide⟩
 have q9:∀ cs:Array Value,∀ off v,cs[off]? = some v->(part 9 cs off).run Tryz.prog w = .ok v w:=fun cs off v h=>by
  simp [part,Tryz.isAgg9,h]
 have q3:∀ cs:Array Value,∀ off v,cs[off]? = some v->(part 3 cs off).run Tryz.prog w = .ok v w:=fun cs off v h=>by
  simp [part,Tryz.isAgg3,h]
 have g0:=fun x:Stp=>q3 (stpA x) 0 (.int .i64 x.k) rfl;have g1:=fun x:Stp=>q3 (stpA x) 1 (.int .i64 x.n) rfl;have g2:=fun x:Stp=>q9 (stpA x) 2 (.string x.s) rfl;have r9:=fun a b=>run_equalIn_string w d 9 a b Tryz.underlying9;have r3:=fun a b=>run_equalIn_int w d 3 .i64 .i64 a b Tryz.underlying3
 have e1:(a.s.toList == b.s.toList)=decide (a.s=b.s):=by
  rw [ByteArray.toList_eq,ByteArray.toList_eq];by_cases h:a.s=b.s
  ·rw [h];simp
  ·have:¬ a.s.data=b.s.data:=fun e=>h (ByteArray.ext e);simp [h,this]
 unfold Op.equal;rw [hm,run_equalIn_struct w (d + 1) 188 _ _ hf hs,hf2];simp only [Op.eqFields,ne_eq,String.reduceEq,not_false_eq_true,if_true,Sem.run_bind,g0,g1,g2,r9,r3,Result.andThen_ok];by_cases h1:a.k=b.k
 ·by_cases h2:a.n=b.n
  ·by_cases h3:a.s=b.s
   ·simp [h1,h2,h3,stpE,Sem.run_pure,r3,r9,g1,g2]
   ·simp [h1,h2,h3,stpE,Sem.run_pure,r3,r9,g1,g2,e1]
  ·simp [h1,h2,stpE,Sem.run_pure,r3,g1]
 ·simp [h1,stpE,Sem.run_pure]
theorem stp_guard (o:BinOp) (ho:o = .eql∨o = .neq) (w:World) (x y:Operand) (vs vs':Array Value):(eqGuard o 188 x y (.agg vs) (.agg vs')).run Tryz.prog w = .ok () w:=by
 have h:Tryz.prog.eqGuardType Tryz.prog.depth 188=false:=by kernel_rfl
 rcases ho with rfl | rfl<;>simp [eqGuard,run_program,h]
theorem stp_eql (x y:Operand) (a b:Stp):AggCmp Tryz.prog .eql x y 188 (dStp a) (dStp b) (stpE a b):=
 ⟨[.int .i64 a.k,.int .i64 a.n,.string a.s],[.int .i64 b.k,.int .i64 b.n,.string b.s],rfl,rfl,fun w=>⟨stp_guard _ (.inl rfl) w x y _ _,by
  show ((do let r <- Op.equal 188 (.agg (stpA a)) (.agg (stpA b));pure (Value.bool r)):Sem Value).run Tryz.prog w=_
  simp only [Sem.run_bind,stp_equal,Result.andThen_ok,Sem.run_pure]⟩⟩
def stpR (d:Nd) (v:Val) (j:Nat):Stp:=
 if d.kind=5 then ⟨2,j,emptyB⟩
 else if d.kind=6 then ⟨4,0,emptyB⟩
 else if d.kind=7 then ⟨1,0,match d.edges[j]? with | some e=>e.name | none=>emptyB⟩
 else ⟨5,0,match d.edges[v.n.toNat]? with | some e=>e.name | none=>emptyB⟩
def leqI (f:Nat->Nat->Bool) (n:Nat) (a b:Int):Bool:=decide (0<=a) && decide (a < n) && decide (0<=b) && decide (b < n) && f a.toNat b.toNat
def jnF (f:Nat->Nat->Bool) (n a b:Nat):Nat:=(joinN f n a b).getD 0
def botF (f:Nat->Nat->Bool) (n:Nat):Nat:=(leastN f n []).getD 0
theorem leqI_nat {f:Nat->Nat->Bool} {n a b:Nat} (ha:a < n) (hb:b < n):leqI f n a b=f a b:=by simp [leqI,ha,hb]
theorem jnF_some {f:Nat->Nat->Bool} {n a b:Nat} (h:LatOK f n) (ha:a < n) (hb:b < n):joinN f n a b=some (jnF f n a b):=by
 obtain ⟨k,hk⟩:=h.jn a b ha hb;simp [jnF,hk]
theorem jnF_lt {f:Nat->Nat->Bool} {n a b:Nat} (h:LatOK f n) (ha:a < n) (hb:b < n):jnF f n a b < n:=(joinN_spec (jnF_some h ha hb)).1
theorem latOK_po {f:Nat->Nat->Bool} {n:Nat} (h:LatOK f n):PoB f n:=⟨h.rfl',h.anti⟩
theorem joinR_some {f:Nat->Nat->Bool} {n a b:Nat} (h:LatOK f n) (ha:a < n) (hb:b < n):joinR f n a b=some (jnF f n a b):=by
 have h1:=jnF_some h ha hb;have h2:=joinN_isNone (n:=n) (a:=a) (b:=b) (latOK_po h);rw [h1] at h2
 cases hr:joinR f n a b with
 | none=>rw [hr] at h2;simp at h2
 | some c=>
  obtain ⟨h3,h4,_⟩:=firstN_spec hr;have:=joinN_of (latOK_po h) h3 h4;rw [h1] at this;exact this.symm
theorem botF_some {f:Nat->Nat->Bool} {n:Nat} (h:LatOK f n):leastN f n []=some (botF f n):=by
 obtain ⟨c,hc⟩:=leastN_some h [] (fun _ h=>by cases h);simp [botF,hc]
theorem botF_lt {f:Nat->Nat->Bool} {n:Nat} (h:LatOK f n):botF f n < n:=leastN_lt (botF_some h)
theorem botF_le {f:Nat->Nat->Bool} {n:Nat} (h:LatOK f n) {a:Nat} (ha:a < n):f (botF f n) a=true:=by
 have h1:=(firstN_spec (botF_some h)).2.1;simp only [lstB,overB,List.all_nil,Bool.true_and,Bool.not_true,Bool.false_or,List.all_eq_true,List.mem_range] at h1;exact h1 a ha
theorem jnF_bot {f:Nat->Nat->Bool} {n a:Nat} (h:LatOK f n) (ha:a < n):jnF f n a (botF f n)=a:=by
 obtain ⟨h1,h2,h3,h4⟩:=joinN_spec (jnF_some h ha (botF_lt h));exact h.anti _ _ h1 ha (h4 a ha (h.rfl' a ha) (botF_le h ha)) h2
section
variable (names:List ByteArray) (tc:List DV) (rows:List Nat) (js:List Int)
theorem lleq_spec (hr:RelOK rows) (hl:rows.length=names.length) (a b:Int) :
  EvP Tryz.prog 167 [.pt (dLs names tc rows js) 0,.v (.int .i64 a),.v (.int .i64 b)] (.v (.bool (hasB rows a b))):=by
 have h1:=lhas_spec names tc rows js;have h2:=rhas_spec rows hr a b;have hB:hasB rows a b=(decide (0<=a) && decide (a < names.length) && decide (0<=b) && decide (b < names.length) && bitB rows a.toNat b.toNat):=by rw [<- hl];all_goals rfl
 generalize hasB rows a b=h at h2 hB ⊢;refine ev_go (P:=Tryz.prog) tt tt_ok 5000 24 [.tmp 6] Tryz.func167 rfl Tryz.ntmps167 rfl (nL rfl) (fun E9 w9 hn9 hm9=>?_);refine call_p en250 (h1 a) ax rfl ?_;refine br (fun g=>?_) (fun g=>?_)
 ·refine call_p en250 (h1 b) ax rfl ?_;refine br (fun g2=>?_) (fun g2=>?_)
  ·refine call_p en285 (h2) ax rfl ?_;exact (rfl:_=_)
  ·refine (congrArg (fun b=>DV.v (.bool b)) ?_:_=_);rw [hB];simp only [Bool.and_assoc] at g g2 ⊢;cases hx:decide (0<=b)<;>cases hy:decide (b < names.length)<;>simp_all [pickB]
 ·refine (congrArg (fun b=>DV.v (.bool b)) ?_:_=_);rw [hB];cases hx:decide (0<=a)<;>cases hy:decide (a < names.length)<;>simp_all [pickB]
end
structure LatR (n:Nat) (f:Nat->Nat->Bool) (names:List ByteArray) (LC:List DV):Prop where
 ok:LatOK f n
 n32:n<=32
 nl:names.length=n
 len:EvP Tryz.prog 139 [.pt LC 0] (.v (.int .i64 n))
 leq:∀ a b:Int,EvP Tryz.prog 167 [.pt LC 0,.v (.int .i64 a),.v (.int .i64 b)] (.v (.bool (leqI f n a b)))
 join:∀ a b:Nat,a < n->b < n->EvP Tryz.prog 143 [.pt LC 0,.v (.int .i64 a),.v (.int .i64 b)] (.v (.int .i64 (jnF f n a b:Nat)))
 bot:EvP Tryz.prog 247 [.pt LC 0] (.v (.int .i64 (botF f n:Nat)))
abbrev leqS (S:Sch):Nat->Nat->Bool:=leqN S.levels.length (numL (nmTx S.levels) S.order)
theorem PlanR.latR {S:Sch} {ND:List Nd} {PC:List DV} (hP:PlanR S ND PC):∃ LC,EvP Tryz.prog 53 [.pt PC 0] (.pt LC 0)/\LatR S.levels.length (leqS S) (nmTx S.levels) LC:=by
 obtain ⟨ord,js,hX,hl⟩:=hP.lat;have hnl:=nmTx_len S.levels;have hlf:=(hP.fine).lat;obtain ⟨hL,h32⟩:=latOK_of hlf;have hpr:∀ p∈numL (nmTx S.levels) S.order,p.1 < S.levels.length/\p.2 < S.levels.length:=by have:=numF_ok (latF_parts hlf).2.2.1;rwa [nmTx_len] at this
 have hrl:(lxOf S ord js).rows.length=S.levels.length:=by
  show (closeR (relN S.levels.length (numL (nmTx S.levels) S.order)) S.levels.length).length=_;rw [closeR_len,relN_len]
 have hr:RelOK (lxOf S ord js).rows:=closeR_ok (relN_ok (by omega) _ hpr) _ (by omega)
 refine ⟨_,hl,{
  ok:=hL,n32:=h32,nl:=hnl
  len:=?_,leq:=fun a b=>?_,join:=fun a b ha hb=>?_,bot:=?_
  }⟩
 ·have:=llen_spec (lxOf S ord js).names (dTbl (lxOf S ord js).names (lxOf S ord js).ord) (lxOf S ord js).rows (lxOf S ord js).js
  rwa [show (lxOf S ord js).names.length=S.levels.length from hnl] at this
 ·have:=lleq_spec (lxOf S ord js).names (dTbl (lxOf S ord js).names (lxOf S ord js).ord) (lxOf S ord js).rows (lxOf S ord js).js hr (by rw [hrl];exact hnl.symm) a b
  have he:hasB (lxOf S ord js).rows a b=leqI (leqS S) S.levels.length a b:=by
   unfold hasB leqI;rw [hrl];all_goals rfl
  rwa [he] at this
 ·have hz:=(hX.hj a b (by rw [show (lxOf S ord js).names.length=S.levels.length from hnl];exact ha) (by rw [show (lxOf S ord js).names.length=S.levels.length from hnl];exact hb)).1;rw [show (lxOf S ord js).names.length=S.levels.length from hnl,show (lxOf S ord js).f=leqS S from rfl,jnF_some hL ha hb] at hz;exact ljoin_spec (lxOf S ord js).names (dTbl (lxOf S ord js).names (lxOf S ord js).ord) (lxOf S ord js).rows (lxOf S ord js).js a b _ (by rw [show (lxOf S ord js).names.length=S.levels.length from hnl];exact ha) (by rw [show (lxOf S ord js).names.length=S.levels.length from hnl];exact hb) hX.hn hz
 ·have:=lbottom_spec (lxOf S ord js).names (dTbl (lxOf S ord js).names (lxOf S ord js).ord) (lxOf S ord js).rows (lxOf S ord js).js hX.hL hX.hn hX.hj
  rwa [show (lxOf S ord js).names.length=S.levels.length from hnl,show (lxOf S ord js).f=leqS S from rfl,botF_some hL] at this
theorem resNds_one {S:Sch} (hF:FineS S) {i:Nat} {n:Nd} (h:(resNds S)[i]? = some n) (hk:n.kind=5∨n.kind=6):∃ e,n.edges=[e]/\e.bare=false/\e.label=(botF (leqS S) S.levels.length:Nat)/\e.ck=0:=by
 rw [resNds_eq] at h;obtain ⟨t,ht,u,hu,rfl,hpos⟩:=ndsA_get h;have hwr:=flatT_wr t ⟨_,_,hF.wr t ht⟩ u hu;have hT:=tyF_of hwr;obtain ⟨hLat,_⟩:=latOK_of hF.lat;have hnl:=nmTx_len S.levels;obtain ⟨uh,us⟩:=u;simp only [Ty.h,Ty.ps] at hT;obtain ⟨q,t',rfl,hn,hpl,_,_,_⟩:=hT.one hk;have hw:=wide_zero hpl;refine ⟨mkEd (levS S) q (toF S q t' (0 + i + 1)),rfl,hw.1,?_,hw.2.2.1⟩
 have hl:q.label=[]:=by
  unfold plainP at hpl;simp only [Bool.and_eq_true] at hpl;have h1:=hpl.1.1.1.2
  cases hq:q.label with
  | nil=>rfl
  | cons a r=>rw [hq] at h1;simp [zeroPh,sameWds] at h1
 show levS S q.label=_;rw [hl];show labN (leqS S) (nmTx S.levels) []=_;unfold labN;rw [if_pos (by rfl),hnl];show oz (leastN (leqS S) S.levels.length [])=_;rw [botF_some hLat];all_goals rfl
def rightS (s:Stp):Bool:=
 if s.k=1∨s.k=5 then decide (s.n=0) && nameOK s.s
 else if s.k=2 then decide (0<=s.n) && decide (s.s=⟨#[]⟩)
 else if s.k=3∨s.k=4 then decide (s.n=0) && decide (s.s=⟨#[]⟩) else false
def rightP (l:List Stp):Bool:=decide (l.length<=64) && l.all rightS
theorem rightP_one (s:Stp):rightP [s]=rightS s:=by simp [rightP]
def edgeB (d:Nd) (s:Stp) (e:Ed):Bool:=
 (decide (s.k=1) && decide (d.kind=7) && (decide (e.name=s.s) && !e.bare)) || (decide (s.k=5) && decide (d.kind=8) && (decide (e.name=s.s) && !e.bare)) ||
  ((decide (s.k=2) || decide (s.k=3)) && decide (d.kind=5) && decide (s.n < d.most)) || (decide (s.k=4) && decide (d.kind=6))
def fitE (d:Nd) (s:Stp) (e:Ed):Bool:=
 if s.k=1 then decide (d.kind=7) && decide (e.name=s.s)
 else if s.k=5 then decide (d.kind=8) && decide (e.name=s.s) && !e.bare
 else if s.k=2 then decide (d.kind=5) && decide (s.n < d.most)
 else if s.k=3 then decide (d.kind=5) && decide (0 < d.most)
 else decide (d.kind=6)
theorem rightS_k {s:Stp} (h:rightS s=true):s.k=1∨s.k=2∨s.k=3∨s.k=4∨s.k=5:=by
 unfold rightS at h;split at h
 ·omega
 ·split at h
  ·omega
  ·split at h
   ·omega
   ·cases h
theorem fitE_eq {L N:Nat} {d:Nd} (hN:NdOK L N d) {s:Stp} (hr:rightS s=true) {e:Ed} (he:e∈d.edges):fitE d s e=edgeB d s e:=by
 have hk:=rightS_k hr;have hb:=hN.bare e he;unfold fitE edgeB;rcases hk with h | h | h | h | h
 ·simp only [h];by_cases h7:d.kind=7
  ·have:e.bare=false:=by
    cases hx:e.bare
    ·rfl
    ·have:=hb hx;omega
   simp [h7,this]
  ·simp [h7]
 ·simp [h]
 ·have hn:s.n=0:=by
   unfold rightS at hr;rw [h] at hr;simp at hr;exact hr.1
  simp [h,hn]
 ·simp [h]
 ·simp [h,Bool.and_assoc]
def edgeP (d:Nd) (s:Stp) (k:Nat):Bool:=match d.edges[k]? with | some e=>edgeB d s e | none=>false
def edgeI (d:Nd) (s:Stp):Option Nat:=if rightS s=true then firstN (edgeP d s) d.edges.length else none
theorem edgeI_some {d:Nd} {s:Stp} {k:Nat} (h:edgeI d s=some k):∃ e,d.edges[k]? = some e/\edgeB d s e=true/\rightS s=true:=by
 unfold edgeI at h;split at h
 ·rename_i hr;obtain ⟨h1,h2,_⟩:=firstN_spec h;refine ⟨d.edges[k],gE h1,?_,hr⟩;unfold edgeP at h2;rw [gE h1] at h2;exact h2
 ·cases h
def walkV (ND:List Nd) (f:Nat->Nat->Bool) (n:Nat):List Stp->Nat->Nat->Option (Nat × Nat)
 | [],i,a=>some (i,a)
 | s :: p,i,a=>match ND[i]? with
  | none=>none
  | some d=>match edgeI d s with
   | none=>none
   | some k=>match d.edges[k]? with
    | none=>none
    | some e=>walkV ND f n p e.to.toNat (jnF f n a e.label.toNat)
theorem edgeB_bare {L N:Nat} {d:Nd} (hN:NdOK L N d) {s:Stp} {e:Ed} (he:e∈d.edges) (h:edgeB d s e=true):e.bare=false:=by
 cases hb:e.bare
 ·rfl
 ·have h8:=hN.bare e he hb;unfold edgeB at h;simp [hb,h8] at h
theorem edge_nums {L:Nat} {ND:List Nd} {d:Nd} (hN:NdOK L ND.length d) {e:Ed} (he:e∈d.edges):(e.bare=false->e.to=(e.to.toNat:Nat)/\e.to.toNat < ND.length)/\(e.label=(e.label.toNat:Nat)/\e.label.toNat < L)/\(e.seen=(e.seen.toNat:Nat)/\e.seen.toNat < L):=by
 have hE:=hN.edge e he;refine ⟨fun hb=>?_,?_,?_⟩
 ·obtain ⟨k,h1,h2⟩:=hE.to1 hb;rw [h1];exact ⟨by simp,by simpa using h2⟩
 ·obtain ⟨k,h1,h2⟩:=hE.lab;rw [h1];exact ⟨by simp,by simpa using h2⟩
 ·obtain ⟨k,h1,h2⟩:=hE.seen;rw [h1];exact ⟨by simp,by simpa using h2⟩
theorem walkV_ok {f:Nat->Nat->Bool} {L:Nat} (hL:LatOK f L) {ND:List Nd} (hok:∀ n∈ND,NdOK L ND.length n):∀ (p:List Stp) (i a:Nat) {j b:Nat},i < ND.length->a < L->walkV ND f L p i a=some (j,b)->j < ND.length/\b < L
 | [],i,a,j,b,hi,ha,h=>by
  rw [walkV] at h;simp only [oI,Prod.mk.injEq] at h;omega
 | s :: p,i,a,j,b,hi,ha,h=>by
  rw [walkV,gE hi] at h;simp only at h;split at h
  ·cases h
  ·rename_i k hk;obtain ⟨e,he,hB,_⟩:=edgeI_some hk;rw [he] at h;simp only at h;have hm:=mG he;have hd:=hok _ (List.getElem_mem hi);obtain ⟨h1,h2,_⟩:=edge_nums hd hm;exact walkV_ok hL hok p _ _ (h1 (edgeB_bare hd hm hB)).2 (jnF_lt hL ha h2.2) h
def howF (f:Nat->Nat->Bool) (n obs:Nat) (d:Nd) (e:Ed) (a:Nat):Nat:=
 if f (if d.kind < 7 then a else jnF f n a e.label.toNat) obs=true then 2 else if e.ck≠0/\f (jnF f n a e.seen.toNat) obs=true then 1 else 0
section
variable (ND:List Nd) (f:Nat->Nat->Bool) (n obs dep:Nat)
end
def edgeN (d:Nd) (z:Int) (j:Nat):Option Ed:=if d.kind=7 then d.edges[j]? else if d.kind=8 then d.edges[z.toNat]? else d.edges[0]?
def undF (f:Nat->Nat->Bool) (n:Nat) (d:Nd) (e:Ed) (a:Nat):Nat:=if d.kind < 7 then a else jnF f n a e.label.toNat
def hidV (e:Ed):Val:=.mk 9 e.wide emptyB []
def coarseV (e:Ed) (v:Val):Val:=
 if e.ck=1/\v.k=2/\(floorV v.n e.cn).2=true then .mk 10 (floorV v.n e.cn).1 emptyB []
 else if e.ck=2/\v.k=3 then .mk 11 0 (ba (headL e.cn.toNat (tx v.s))) []
 else if e.ck=3/\v.k=5 then .mk 12 v.ks.length emptyB []
 else hidV e
def sameC (e:Ed) (x y:Val):Bool:=
 if e.ck=1/\x.k=2 then decide (floorV x.n e.cn=floorV y.n e.cn)
 else if e.ck=2/\x.k=3 then headsL e.cn.toNat (tx x.s) (tx y.s)
 else if e.ck=3/\x.k=5 then decide (x.ks.length=y.ks.length)
 else true
theorem floorV_no (n u:Int) (h:(floorV n u).2=false):floorV n u=(0,false):=by
 unfold floorV at h ⊢
 repeat' split at h
 all_goals first | cases h | skip
 ·rename_i g;rw [if_pos g]
 ·rename_i g g2;rw [if_neg g,if_pos g2]
theorem sameC_eq (e:Ed) {x y:Val} (h:x.k=y.k):sameC e x y=sameV (coarseV e x) (coarseV e y):=by
 apply Bool.eq_iff_iff.2;rw [sameV_iff];unfold sameC coarseV;rw [<- h];by_cases c1:e.ck=1/\x.k=2
 ·rw [if_pos c1,decide_eq_true_iff];have n2:¬ (e.ck=2/\x.k=3):=by omega
  have n3:¬ (e.ck=3/\x.k=5):=by omega
  rw [if_neg n2,if_neg n3,if_neg n2,if_neg n3];simp only [c1.1,c1.2,true_and];cases hx:(floorV x.n e.cn).2<;>cases hy:(floorV y.n e.cn).2
  ·rw [floorV_no _ _ hx,floorV_no _ _ hy];simp
  ·simp only [reduceIte,hidV,Val.mk.injEq,Bool.false_eq_true];constructor
   ·intro e;rw [e,hy] at hx;cases hx
   ·intro e;omega
  ·simp only [reduceIte,hidV,Val.mk.injEq,Bool.false_eq_true];constructor
   ·intro e;rw [e,hy] at hx;cases hx
   ·intro e;omega
  ·simp only [reduceIte,Val.mk.injEq,true_and,and_true];constructor
   ·intro e;rw [e]
   ·intro e;exact Prod.ext e (hx.trans hy.symm)
 ·have c1':∀ p:Prop,¬ (e.ck=1/\x.k=2/\p):=fun p q=>c1 ⟨q.1,q.2.1⟩;rw [if_neg c1,if_neg (c1' _),if_neg (c1' _)];by_cases c2:e.ck=2/\x.k=3
  ·rw [if_pos c2,if_pos c2,if_pos c2,heads_eq,decide_eq_true_iff];constructor
   ·intro h;rw [h]
   ·intro h;simp only [Val.mk.injEq,true_and,and_true] at h;have:=congrArg tx h
    rwa [tx_ba,tx_ba] at this
  ·rw [if_neg c2,if_neg c2,if_neg c2];by_cases c3:e.ck=3/\x.k=5
   ·rw [if_pos c3,if_pos c3,if_pos c3,decide_eq_true_iff];simp only [Val.mk.injEq,true_and,and_true];omega
   ·rw [if_neg c3,if_neg c3,if_neg c3];simp
def stpZ (d:Nd) (z:Int) (j:Nat):Stp:=stpR d (.mk 0 z emptyB []) j
section
variable (ND:List Nd) (f:Nat->Nat->Bool) (L obs:Nat)
mutual
def eraseV:Val->Int->Nat->Val
 | .mk k n s ks,i,a=>match nodeA ND i with
  | none=>.mk k n s []
  | some d=>.mk k n s (eraseVs ks d n a 0)
def eraseVs:List Val->Nd->Int->Nat->Nat->List Val
 | [],_,_,_,_=>[]
 | x :: r,d,z,a,j=>(match edgeN d z j with
  | none=>x
  | some e=>if howF f L obs d e a=2 then eraseV x e.to (undF f L d e a) else if howF f L obs d e a=1 then coarseV e x else hidV e) :: eraseVs r d z a (j + 1)
end
mutual
def diffV:Val->Val->Int->Nat->Option (List Stp)
 | .mk _ n s ks,.mk _ n' s' ks',i,a=>if n≠n' ∨ s≠s' ∨ ks.length≠ks'.length then some [] else match nodeA ND i with
  | none=>none
  | some d=>diffVs ks ks' d n a 0
def diffVs:List Val->List Val->Nd->Int->Nat->Nat->Option (List Stp)
 | x :: r,y :: t,d,z,a,j=>match edgeN d z j with
  | none=>none
  | some e=>match (if howF f L obs d e a=2 then diffV x y e.to (undF f L d e a) else if howF f L obs d e a=1 then (if sameC e x y=true then none else some []) else none) with
   | some p=>some (stpZ d z j :: p)
   | none=>diffVs r t d z a (j + 1)
 | _,_,_,_,_,_=>none
end
mutual
def refD:Val->Val->Int->Option (List Stp)
 | .mk k n s ks,.mk k' n' s' ks',i=>if k≠k' ∨ n≠n' ∨ s≠s' ∨ ks.length≠ks'.length then some [] else match nodeA ND i with
  | none=>none
  | some d=>refDs ks ks' d n 0
def refDs:List Val->List Val->Nd->Int->Nat->Option (List Stp)
 | x :: r,y :: t,d,z,j=>match edgeN d z j with
  | none=>none
  | some e=>match refD x y e.to with
   | some p=>some (stpZ d z j :: p)
   | none=>refDs r t d z (j + 1)
 | _,_,_,_,_=>none
end
mutual
def vwB:Val->Int->Bool
 | .mk _ n _ ks,i=>match nodeA ND i with
  | none=>false
  | some d=>vwBs ks d n 0
def vwBs:List Val->Nd->Int->Nat->Bool
 | [],_,_,_=>true
 | x :: r,d,z,j=>match edgeN d z j with
  | none=>false
  | some e=>decide (toR d (.mk 0 z emptyB []) j=e.to) && decide (0<=e.to) && vwB x e.to && vwBs r d z (j + 1)
end
end
section
variable {ND:List Nd} {f:Nat->Nat->Bool} {L obs:Nat}
theorem eraseVs_len:∀ (ks:List Val) (d:Nd) (z:Int) (a j:Nat),(eraseVs ND f L obs ks d z a j).length=ks.length
 | [],_,_,_,_=>by rw [eraseVs]
 | x :: r,d,z,a,j=>by rw [eraseVs,List.length_cons,List.length_cons,eraseVs_len r]
theorem eraseVs_at:∀ {ks:List Val} {d:Nd} {z:Int} {a j m:Nat} {x:Val},ks[m]? = some x->(eraseVs ND f L obs ks d z a j)[m]? = some (match edgeN d z (j + m) with
  | none=>x
  | some e=>if howF f L obs d e a=2 then eraseV ND f L obs x e.to (undF f L d e a) else if howF f L obs d e a=1 then coarseV e x else hidV e)
 | [],_,_,_,_,_,_,h=>by cases h
 | y :: r,d,z,a,j,0,x,h=>by
  rw [eraseVs];cases h;rfl
 | y :: r,d,z,a,j,m + 1,x,h=>by
  rw [eraseVs,List.getElem?_cons_succ,eraseVs_at (ks:=r) (m:=m) (x:=x) h,show j + 1 + m=j + (m + 1) by omega]
theorem kid_edge {N:Nat} (hok:∀ n∈ND,NdOK N ND.length n) {v:Val} {i:Int} {d:Nd} (hfit:fitV ND v i=true) (hF:FitF ND v i d) {m:Nat} {x:Val} (hx:v.ks[m]? = some x) :
  ∃ e,edgeN d v.n m=some e/\e∈d.edges/\e.bare=false/\fitV ND x e.to=true/\toR d v m=e.to/\5<=d.kind:=by
 have hN:=hok d (mG (nodeA_some hF.node).2);have hm:m < v.ks.length:=(gS hx).1;have h8:=hN.k8;have h1:=hN.k1;by_cases h5:d.kind < 5
 ·rw [hF.leaf h5] at hx;cases hx
 obtain ⟨hkl,hkf⟩:=hF.kids (by omega);rcases (show (d.kind=5∨d.kind=6)∨d.kind=7∨d.kind=8 by omega) with c | c | c
 ·obtain ⟨e,he,hb,_⟩:=hN.one c;have ht0:to0 d=e.to:=by unfold to0;rw [he];all_goals rfl
  have hl:(kidsL d v)[m]? = some e.to:=by
   unfold kidsL;rw [if_pos c,ht0,List.getElem?_replicate,if_pos hm]
  refine ⟨e,?_,by rw [he];exact List.mem_singleton_self e,hb,fitVs_at hkf hx hl,?_,by omega⟩
  ·unfold edgeN;rw [if_neg (by omega),if_neg (by omega),he];rfl
  ·unfold toR;rw [ht0];rcases c with c | c
   ·rw [if_pos c,if_pos];have h2:=hfit;obtain ⟨q,z,s,ks⟩:=v;rw [fitV,hF.node] at h2;simp only at h2;rw [if_neg h5,Bool.and_eq_true] at h2;have h3:=h2.1;unfold kidsB at h3;rw [if_pos (.inl c)] at h3;simp only [Bool.and_eq_true,decide_eq_true_eq] at h3;have h4:=h3.2;rw [if_neg (by omega)] at h4;omega
   ·have:=hF.opt c;rw [if_neg (by omega),if_pos c,if_pos (by omega)]
 ·have hl0:(kidsL d v)=d.edges.map Ed.to:=by
   unfold kidsL;rw [if_neg (by omega),if_pos c]
  have hml:m < d.edges.length:=by
   rw [hl0,List.length_map] at hkl;omega
  obtain ⟨e,he⟩:∃ e,d.edges[m]? = some e:=⟨_,gE hml⟩;have hl:(kidsL d v)[m]? = some e.to:=by rw [hl0,List.getElem?_map,he];all_goals rfl
  have hmem:=mG he;refine ⟨e,?_,hmem,?_,fitVs_at hkf hx hl,?_,by omega⟩
  ·unfold edgeN;rw [if_pos c,he]
  ·cases hb:e.bare
   ·rfl
   ·have:=hN.bare e hmem hb;omega
  ·unfold toR;rw [if_neg (by omega),if_neg (by omega),if_pos c,he]
 ·obtain ⟨e,ht,he,h0,hlt,hb⟩:=hF.tag c
  have hbf:e.bare=false:=by
   cases hbb:e.bare
   ·rfl
   ·have:=hb.1 hbb;rw [this] at hx;cases hx
  have hl0:kidsL d v=[e.to]:=by
   unfold kidsL;rw [if_neg (by omega),if_neg (by omega),ht];simp [hbf]
  have hm0:m=0:=by
   rw [hl0,List.length_singleton] at hkl;omega
  subst hm0;refine ⟨e,?_,mG he,hbf,fitVs_at hkf hx (by rw [hl0];rfl),?_,by omega⟩
  ·unfold edgeN;rw [if_neg (by omega),if_pos c,he]
  ·unfold toR;rw [if_neg (by omega),if_neg (by omega),if_neg (by omega),if_pos c,if_pos ⟨by omega,h0,hlt⟩,he]
structure KidOK (ND:List Nd) (d:Nd) (z:Int) (j:Nat) (x:Val) (e:Ed):Prop where
 edge:edgeN d z j=some e
 mem:e∈d.edges
 bare:e.bare=false
 fit:fitV ND x e.to=true
 to':toR d (.mk 0 z emptyB []) j=e.to
theorem kids_ok {N:Nat} (hok:∀ n∈ND,NdOK N ND.length n) {v:Val} {i:Int} {d:Nd} (hfit:fitV ND v i=true) (hF:FitF ND v i d) {m:Nat} {x:Val} (hx:v.ks[m]? = some x):∃ e,KidOK ND d v.n m x e:=by
 obtain ⟨e,h1,h2,h3,h4,h5,_⟩:=kid_edge hok hfit hF hx;exact ⟨e,⟨h1,h2,h3,h4,h5⟩⟩
theorem to_in {N:Nat} {d:Nd} {e:Ed} (hN:NdOK N ND.length d) (he:e∈d.edges) (hb:e.bare=false):0<=e.to/\∃ d',nodeA ND e.to=some d':=by
 obtain ⟨k,hk,hlt⟩:=(hN.edge e he).to1 hb;refine ⟨by omega,ND[k],?_⟩;unfold nodeA;rw [if_neg (by omega),hk,Int.toNat_natCast,gE hlt]
theorem coarseV_ks (e:Ed) (v:Val):(coarseV e v).ks=[]:=by
 unfold coarseV
 repeat' split
 all_goals rfl
theorem refD_nil {x y:Val} {i:Int} (hx:x.ks=[]) (hy:y.ks=[]):refD ND x y i=if sameV x y=true then none else some []:=by
 obtain ⟨k,n,s,ks⟩:=x;obtain ⟨k',n',s',ks'⟩:=y;simp only [Val.ks] at hx hy;subst hx hy;rw [refD];by_cases h:k≠k' ∨ n≠n' ∨ s≠s' ∨ ([]:List Val).length≠([]:List Val).length
 ·rw [if_pos h,if_neg];rw [sameV_iff];intro e;cases e;simp at h
 ·rw [if_neg h];simp at h;obtain ⟨rfl,rfl,rfl⟩:=h;rw [if_pos (sameV_refl _)]
  cases nodeA ND i with
  | none=>rfl
  | some d=>simp only;rw [refDs];simp
mutual
theorem diff_eq {N:Nat} (hok:∀ n∈ND,NdOK N ND.length n):∀ (x y:Val) (i:Int) (a:Nat),fitV ND x i=true->fitV ND y i=true ->
  refD ND (eraseV ND f L obs x i a) (eraseV ND f L obs y i a) i=diffV ND f L obs x y i a
 | .mk k n s ks,.mk k' n' s' ks',i,a,hx,hy=>by
  obtain ⟨d,hF⟩:=fit_facts hok hx;obtain ⟨d',hF'⟩:=fit_facts hok hy;have hdd:d'=d:=by have:=hF.node;rw [hF'.node] at this;cases this;rfl
  subst hdd;have hkk:k=k':=hF.k.trans hF'.k.symm;subst hkk;rw [eraseV,eraseV,diffV,hF.node];simp only;rw [refD,hF.node];simp only;rw [eraseVs_len,eraseVs_len];by_cases h:n≠n' ∨ s≠s' ∨ ks.length≠ks'.length
  ·rw [if_pos h,if_pos (.inr h)]
  ·rw [if_neg h,if_neg (by simpa using h)];simp at h;obtain ⟨rfl,rfl,hl⟩:=h
   exact diff_eqs hok ks ks' d' n a 0 hl (hok d' (mG (nodeA_some hF.node).2)) (fun m x y hx1 hy1=>by
    obtain ⟨e,he⟩:=kids_ok hok hx hF hx1;obtain ⟨e',he'⟩:=kids_ok hok hy hF' hy1;have h1:=he.edge;have h2:=he'.edge;simp only [Val.n] at h1 h2;rw [h1] at h2;cases h2
    exact ⟨e,by rw [Nat.zero_add];exact he,he'.fit⟩)
theorem diff_eqs {N:Nat} (hok:∀ n∈ND,NdOK N ND.length n):∀ (ks ls:List Val) (d:Nd) (z:Int) (a j:Nat),ks.length=ls.length->NdOK N ND.length d->(∀ m x y,ks[m]? = some x->ls[m]? = some y->∃ e,KidOK ND d z (j + m) x e/\fitV ND y e.to=true) ->
  refDs ND (eraseVs ND f L obs ks d z a j) (eraseVs ND f L obs ls d z a j) d z j=diffVs ND f L obs ks ls d z a j
 | [],[],_,_,_,_,_,_,_=>by rw [eraseVs,refDs,diffVs]<;>simp
 | x :: r,y :: t,d,z,a,j,hl,hN,hk=>by
  obtain ⟨e,he,hfy⟩:=hk 0 x y rfl rfl;rw [Nat.add_zero] at he
  have ih:=diff_eqs hok r t d z a (j + 1) (by simpa using hl) hN (fun m x y h1 h2=>by
   have:=hk (m + 1) x y h1 h2
   rwa [show j + (m + 1)=j + 1 + m by omega] at this)
  rw [eraseVs,eraseVs,refDs,diffVs,he.edge];simp only;rw [ih]
  have hxk:x.k=y.k:=by
   obtain ⟨d1,hF1⟩:=fit_facts hok he.fit;obtain ⟨d2,hF2⟩:=fit_facts hok hfy;have:=hF1.node;rw [hF2.node] at this;cases this;exact hF1.k.trans hF2.k.symm
  by_cases c2:howF f L obs d e a=2
  ·rw [if_pos c2,if_pos c2,if_pos c2,diff_eq hok x y e.to (undF f L d e a) he.fit hfy]
  ·rw [if_neg c2,if_neg c2,if_neg c2];by_cases c1:howF f L obs d e a=1
   ·rw [if_pos c1,if_pos c1,if_pos c1,refD_nil (coarseV_ks e x) (coarseV_ks e y),sameC_eq e hxk]
   ·rw [if_neg c1,if_neg c1,if_neg c1,refD_nil (x:=hidV e) (y:=hidV e) rfl rfl,if_pos (sameV_refl _)]
 | [],_ :: _,_,_,_,_,hl,_,_=>by simp at hl
 | _ :: _,[],_,_,_,_,hl,_,_=>by simp at hl
end
mutual
theorem refD_none:∀ (x y:Val) (i:Int),vwB ND x i=true->(refD ND x y i=none↔x=y)
 | .mk k n s ks,.mk k' n' s' ks',i,hx=>by
  rw [vwB] at hx;rw [refD];by_cases h:k≠k' ∨ n≠n' ∨ s≠s' ∨ ks.length≠ks'.length
  ·rw [if_pos h];constructor
   ·intro e;cases e
   ·intro e;cases e;simp at h
  ·rw [if_neg h];simp at h;obtain ⟨rfl,rfl,rfl,hl⟩:=h
   cases hd:nodeA ND i with
   | none=>rw [hd] at hx;cases hx
   | some d=>
    rw [hd] at hx;simp only at hx ⊢;rw [refDs_none ks ks' d n 0 hl hx];constructor
    ·rintro rfl;rfl
    ·intro e;cases e;rfl
theorem refDs_none:∀ (ks ls:List Val) (d:Nd) (z:Int) (j:Nat),ks.length=ls.length->vwBs ND ks d z j=true->(refDs ND ks ls d z j=none↔ks=ls)
 | [],[],_,_,_,_,_=>by rw [refDs]<;>simp
 | x :: r,y :: t,d,z,j,hl,hx=>by
  rw [vwBs] at hx;rw [refDs]
  cases he:edgeN d z j with
  | none=>rw [he] at hx;cases hx
  | some e=>
   rw [he] at hx;simp only [Bool.and_eq_true] at hx ⊢;have h1:=refD_none x y e.to hx.1.2;have h2:=refDs_none r t d z (j + 1) (by simpa using hl) hx.2
   cases hr:refD ND x y e.to with
   | none=>
    have:=h1.1 hr;subst this;simp only;rw [h2];constructor
    ·rintro rfl;rfl
    ·intro e;cases e;rfl
   | some p=>
    simp only;constructor
    ·intro e;cases e
    ·intro e;cases e;rw [h1.2 rfl] at hr;cases hr
 | [],_ :: _,_,_,_,hl,_=>by simp at hl
 | _ :: _,[],_,_,_,hl,_=>by simp at hl
end
mutual
theorem erase_vw {N:Nat} (hok:∀ n∈ND,NdOK N ND.length n):∀ (x:Val) (i:Int) (a:Nat),fitV ND x i=true->vwB ND (eraseV ND f L obs x i a) i=true
 | .mk k n s ks,i,a,hx=>by
  obtain ⟨d,hF⟩:=fit_facts hok hx;rw [eraseV,hF.node];simp only;rw [vwB,hF.node];simp only;exact erase_vws hok ks d n a 0 (hok d (mG (nodeA_some hF.node).2)) (fun m x hx1=>by rw [Nat.zero_add];exact kids_ok hok hx hF hx1)
theorem erase_vws {N:Nat} (hok:∀ n∈ND,NdOK N ND.length n):∀ (ks:List Val) (d:Nd) (z:Int) (a j:Nat),NdOK N ND.length d->(∀ m x,ks[m]? = some x->∃ e,KidOK ND d z (j + m) x e) ->
  vwBs ND (eraseVs ND f L obs ks d z a j) d z j=true
 | [],_,_,_,_,_,_=>by rw [eraseVs,vwBs]
 | x :: r,d,z,a,j,hN,hk=>by
  obtain ⟨e,he⟩:=hk 0 x rfl;rw [Nat.add_zero] at he
  have ih:=erase_vws hok r d z a (j + 1) hN (fun m x h1=>by
   have:=hk (m + 1) x h1
   rwa [show j + (m + 1)=j + 1 + m by omega] at this)
  obtain ⟨h0,d',hd'⟩:=to_in hN he.mem he.bare
  have hnil:∀ w:Val,w.ks=[]->vwB ND w e.to=true:=by
   intro ⟨k,n,s,ks⟩ h;simp only [Val.ks] at h;subst h;rw [vwB,hd'];simp only;rw [vwBs]
  rw [eraseVs,vwBs,he.edge];simp only;rw [ih,he.to',decide_eq_true rfl,decide_eq_true h0];simp only [Bool.true_and,Bool.and_true];by_cases c2:howF f L obs d e a=2
  ·rw [if_pos c2];exact erase_vw hok x e.to (undF f L d e a) he.fit
  ·rw [if_neg c2];by_cases c1:howF f L obs d e a=1
   ·rw [if_pos c1];exact hnil _ (coarseV_ks e x)
   ·rw [if_neg c1];exact hnil _ rfl
end
theorem alike_eq {N:Nat} (hok:∀ n∈ND,NdOK N ND.length n) {x y:Val} {i:Int} {a:Nat} (hx:fitV ND x i=true) (hy:fitV ND y i=true) :
  sameV (eraseV ND f L obs x i a) (eraseV ND f L obs y i a)=(diffV ND f L obs x y i a).isNone:=by
 apply Bool.eq_iff_iff.2;rw [sameV_iff,<- refD_none _ _ i (erase_vw hok x i a hx),diff_eq hok x y i a hx hy];cases diffV ND f L obs x y i a<;>simp
end
section
variable (ND:List Nd) (f:Nat->Nat->Bool) (L obs:Nat)
end
section
variable {ND:List Nd} {f:Nat->Nat->Bool} {L obs:Nat}
theorem howF_eq (d:Nd) (e:Ed) (a:Nat):howF f L obs d e a=if f (undF f L d e a) obs=true then 2 else if e.ck≠0/\f (jnF f L a e.seen.toNat) obs=true then 1 else 0:=rfl
theorem undF_lt {N:Nat} {d:Nd} {e:Ed} {a:Nat} (hL:LatOK f L) (hN:NdOK L N d) (hm:e∈d.edges) (ha:a < L):undF f L d e a < L:=by
 obtain ⟨k,hk,hl⟩:=(hN.edge e hm).lab;unfold undF;split
 ·exact ha
 ·exact jnF_lt hL ha (by rw [hk,Int.toNat_natCast];exact hl)
theorem seen_lt {N:Nat} {d:Nd} {e:Ed} {a:Nat} (hL:LatOK f L) (hN:NdOK L N d) (hm:e∈d.edges) (ha:a < L):jnF f L a e.seen.toNat < L:=by
 obtain ⟨k,hk,hl⟩:=(hN.edge e hm).seen;exact jnF_lt hL ha (by rw [hk,Int.toNat_natCast];exact hl)
end
abbrev hdsSt (a b:ByteArray) (at':Nat) (m:Int) (e:Nat):St:=⟨[(0,⟨[],.v (.string a)⟩),(1,⟨[],.v (.string b)⟩),(7,⟨[],.v (.int .i64 at')⟩),(12,⟨[],.v (.int .i64 m)⟩),(13,⟨[],.v (.int .i64 e)⟩)],[],[]⟩
theorem heads_spec (a b:ByteArray) (ha:a.size<=1099511627776) (hb:b.size<=1099511627776) (m:Int) (hm:m<=9223372036854775807):EvP Tryz.prog 397 [.v (.string a),.v (.string b),.v (.int .i64 m)] (.v (.bool (headsL m.toNat (tx a) (tx b)))):=by
 refine ev_go (P:=Tryz.prog) tt tt_ok 5000 49 [.tmp 6] Tryz.func397 rfl Tryz.ntmps397 rfl (nL rfl) (fun E9 w9 hn9 hm9=>?_);refine loop_i (fun j st=>∃ e at':Nat,st=hdsSt a b at' m e/\(e:Int)<=max m 0/\at' <= a.size/\at' <= b.size/\headsL (m.toNat - e) ((tx a).drop at') ((tx b).drop at')=headsL m.toNat (tx a) (tx b)/\j=m.toNat - e) m.toNat (hdsSt a b 0 m 0) (weak_mk ⟨_,rfl⟩ wA rfl rfl rfl wRB) ⟨0,0,rfl,by omega,by omega,by omega,rfl,by omega⟩ ?_;rintro j st ⟨e,at',rfl,he,h1,h2,hE,rfl⟩;refine br (fun hL=>?_) (fun hL=>?_)
 rotate_left
 ·have hge:m.toNat - e=0:=by have:=of_decide_eq_false hL;omega
  rw [hge] at hE;rw [<- hE];exact (rfl:_=_)
 have hlt:(e:Int) < m:=of_decide_eq_true hL;obtain ⟨k,hk⟩:∃ k,m.toNat - e=k + 1:=⟨m.toNat - e - 1,by omega⟩;have hstep:headsL (k + 1) ((tx a).drop at') ((tx b).drop at')=(decide (unN ((tx a).drop at')=unN ((tx b).drop at')) && decide (((tx a).drop at').take (unN ((tx a).drop at'))=((tx b).drop at').take (unN ((tx b).drop at'))) && headsL k (((tx a).drop at').drop (unN ((tx a).drop at'))) (((tx b).drop at').drop (unN ((tx b).drop at')))):=rfl;rw [hk,hstep] at hE;have hua:=unit_spec a at' ha h1;have hub:=unit_spec b at' hb h2
 have hla:unN ((tx a).drop at') + at' <= a.size:=by
  have:=tx_len a;by_cases c:(tx a).drop at'=[]
  ·rw [c];show 0 + at' <= _;omega
  ·have:=(unN_pos c).2;rw [List.length_drop] at this;omega
 have hlb:unN ((tx b).drop at') + at' <= b.size:=by
  have:=tx_len b;by_cases c:(tx b).drop at'=[]
  ·rw [c];show 0 + at' <= _;omega
  ·have:=(unN_pos c).2;rw [List.length_drop] at this;omega
 refine call_e en442 rfl hua ax (fun q hq=>?_);obtain ⟨z1,rfl⟩:=hq;refine call_e en442 rfl hub ax (fun q hq=>?_);obtain ⟨z2,rfl⟩:=hq;generalize unN ((tx a).drop at')=n at hE hla ⊢;generalize unN ((tx b).drop at')=m' at hE hlb ⊢;refine drawG_i (fun _=>false) mo (by decide +kernel) ?_;refine br (fun c=>?_) (fun c=>?_)
 ·have c:n=m':=by
   have:(n:Int)=m':=by simpa using c
   omega
  subst c;rw [decide_eq_true rfl,Bool.true_and] at hE
  have hw:IntKind.i64.wrap ((at':Int) + n)=((at' + n:Nat):Int):=by
   rw [wrap64 (by omega) (by omega)];omega
  have he1:IntKind.i64.wrap ((e:Int) + 1)=((e + 1:Nat):Int):=by
   rw [wrap64 (by omega) (by omega)];omega
  have hx:∀ s:ByteArray,s.extract at' (IntKind.i64.wrap ((at':Int) + n)).toNat=ba (((tx s).drop at').take n):=fun s=>ba_ext (by
   rw [hw,Int.toNat_natCast]
   simp [tx])
  refine ⟨⟨by omega,by rw [hw];omega,by rw [hw];omega⟩,?_⟩;refine ⟨⟨by omega,by rw [hw];omega,by rw [hw];omega⟩,?_⟩;refine br (fun c=>?_) (fun c=>?_)
  ·have c:¬ ((tx a).drop at').take n=((tx b).drop at').take n:=by
    have c1:¬ a.extract at' (IntKind.i64.wrap ((at':Int) + n)).toNat=b.extract at' (IntKind.i64.wrap ((at':Int) + n)).toNat:=by simpa [pickB] using c
    rw [hx,hx,ba_inj] at c1;exact c1
   rw [decide_eq_false c] at hE;rw [<- hE];exact (rfl:_=_)
  ·have c:((tx a).drop at').take n=((tx b).drop at').take n:=by
    have c1:a.extract at' (IntKind.i64.wrap ((at':Int) + n)).toNat=b.extract at' (IntKind.i64.wrap ((at':Int) + n)).toNat:=by simpa [pickB] using c
    rw [hx,hx,ba_inj] at c1;exact c1
   rw [decide_eq_true c,Bool.true_and,List.drop_drop,List.drop_drop] at hE;exact ⟨hdsSt a b (at' + n) m (e + 1),(weak_mk ⟨_,rfl⟩ wA rfl rfl rfl (by repeat' (first | exact trivial | exact we_rfl rfl | exact we_int hw | exact we_int he1 | refine ⟨⟨_,rfl,?_⟩,?_⟩))),m.toNat - (e + 1),by omega,e + 1,at' + n,rfl,by omega,by omega,by omega,by rw [show m.toNat - (e + 1)=k by omega];exact hE,rfl⟩
 ·have c:¬ n=m':=by
   have:¬ (n:Int)=m':=by simpa using c
   omega
  rw [decide_eq_false c] at hE;rw [<- hE];exact (rfl:_=_)
theorem floors_spec (a b u:Int) (ha : -9223372036854775808<=a/\a<=9223372036854775807) (hb : -9223372036854775808<=b/\b<=9223372036854775807) (hu : -9223372036854775808<=u/\u<=9223372036854775807) :
  EvP Tryz.prog 396 [.v (.int .i64 a),.v (.int .i64 b),.v (.int .i64 u)] (.v (.bool (decide (floorV a u=floorV b u)))):=by
 have h1:=floor_spec a u ha hu;have h2:=floor_spec b u hb hu;unfold floorD at h1 h2;generalize floorV a u=x at h1 ⊢;generalize floorV b u=y at h2 ⊢;obtain ⟨x1,x2⟩:=x;obtain ⟨y1,y2⟩:=y;refine ev_go (P:=Tryz.prog) tt tt_ok 5000 31 [.tmp 6] Tryz.func396 rfl Tryz.ntmps396 rfl (nL rfl) (fun E9 w9 hn9 hm9=>?_);refine call_p en441 (h1) ax rfl ?_;refine call_p en441 (h2) ax rfl ?_;refine (congrArg (fun z=>DV.v (.bool z)) ?_:_=_);simp only [pickB_and,Prod.mk.injEq,Bool.decide_and];cases x2<;>cases y2<;>rfl
mutual
def rngW:Val->Prop
 | .mk k n _ ks=>I64 k/\I64 n/\rngWs ks
def rngWs:List Val->Prop
 | []=>True
 | v :: r=>rngW v/\rngWs r
end
theorem rngWs_mem:∀ {l:List Val} {x:Val},rngWs l->x∈l->rngW x
 | v :: r,x,h,hm=>by
  rw [rngWs] at h;rcases List.mem_cons.1 hm with rfl | hm
  ·exact h.1
  ·exact rngWs_mem h.2 hm
theorem rngW_n {v:Val} (h:rngW v) : -9223372036854775808<=v.n/\v.n<=9223372036854775807:=by
 obtain ⟨k,n,s,ks⟩:=v;rw [rngW] at h;exact h.2.1
theorem rngW_ks {v:Val} (h:rngW v):rngWs v.ks:=by
 obtain ⟨k,n,s,ks⟩:=v;rw [rngW] at h;exact h.2.2
theorem es_valr {m:Nat} (ih:∀ k,k<=m->∀ ds,Typ Tryz.prog k 59 ds->∃ v:Val,ds=dVal v/\rngW v/\v.wt<=wgL ds) :
  ∀ {es:List (List DV)},(∀ cs∈es,Typ Tryz.prog m 59 cs)->∃ l:List Val,es=dVals l/\rngWs l/\wtVs l<=wgEs es
 | [],h=>⟨[],rfl,by simp [rngWs],by simp [wtVs]⟩
 | cs :: r,h=>by
  obtain ⟨l,rfl,hr,hl⟩:=es_valr ih (es:=r) (fun c hc=>h c (List.mem_cons_of_mem _ hc));obtain ⟨v,rfl,hr2,hv⟩:=ih m (Nat.le_refl _) cs (h cs (by simp));exact ⟨v :: l,rfl,by rw [rngWs];exact ⟨hr2,hr⟩,by simp only [wtVs,wgEs];omega⟩
theorem typ_valr:∀ (n:Nat) (ds:List DV),Typ Tryz.prog n 59 ds->∃ v:Val,ds=dVal v/\rngW v/\v.wt<=wgL ds:=by
 intro n
 induction n using Nat.strongRecOn with
 | _ n ih=>
  intro ds h;obtain ⟨m,rfl,hf⟩:=typ_st Tryz.underlying59 h;obtain ⟨a1,b1,rfl,h1,a2,b2,rfl,h2,a3,b3,rfl,h3,a4,b4,rfl,h4,rfl⟩:=hf;obtain ⟨k,rfl,r1⟩:=typ_i h1;obtain ⟨z,rfl,r2⟩:=typ_i h2;obtain ⟨s,rfl⟩:=typ_str Tryz.underlying9 h3;obtain ⟨j,es,rfl,rfl,hes⟩:=typ_sl Tryz.underlying57 h4;obtain ⟨l,rfl,r3,wl⟩:=es_valr (fun i hi=>ih i (by omega)) hes;rw [cells_value];refine ⟨.mk k z s l,rfl,by rw [rngW];exact ⟨r1,r2,r3⟩,?_⟩;simp only [Val.wt,wgL_append,wgL,wgD] at *;omega
namespace Dv
end Dv
mutual
theorem flatT_rng:∀ (t:Ty),rngT t->∀ u∈flatT t,rngT u
 | .mk h ps,hr,u,hu=>by
  rw [flatT] at hu;split at hu
  ·cases hu
  ·rcases List.mem_cons.1 hu with rfl | hu
   ·exact hr
   ·rw [rngT] at hr;exact flatP_rng ps hr.2.2.2 u hu
theorem flatP_rng:∀ (ps:Pts),rngP ps->∀ u∈flatP ps,rngT u
 | .nil,_,u,hu=>by cases hu
 | .cons p v r,hr,u,hu=>by
  rw [flatP] at hu;rw [rngP] at hr;rcases List.mem_append.1 hu with hu | hu
  ·split at hu
   ·cases hu
   ·exact flatT_rng v hr.2.2.1 u hu
  ·exact flatP_rng r hr.2.2.2 u hu
end
theorem edsP_rng {lev:List Wd->Int} {s:Sch}:∀ (ps:Pts) (k:Nat),rngP ps->∀ e∈edsP lev s ps k,I64 e.cn
 | .nil,_,_,e,he=>by cases he
 | .cons p v r,k,hr,e,he=>by
  rw [edsP] at he;rw [rngP] at hr;rcases List.mem_cons.1 he with rfl | he
  ·exact hr.2.1
  ·exact edsP_rng r _ hr.2.2.2 e he
def rngN (n:Nd):Prop:=I64 n.lo/\I64 n.hi/\∀ e∈n.edges,I64 e.cn
theorem resNds_rng {S:Sch} (hr:rngS S) {n:Nd} (h:n∈resNds S):rngN n:=by
 rw [resNds_eq] at h;obtain ⟨t,ht,u,hu,k,rfl⟩:=ndsA_mem h
 have h1:rngT t:=by
  rcases List.mem_append.1 ht with h | h
  ·obtain ⟨x,hx,rfl⟩:=List.mem_map.1 h;exact hr.1 x hx
  ·simp only [List.mem_singleton] at h;subst h;exact hr.2
 have h2:=flatT_rng t h1 u hu;obtain ⟨uh,us⟩:=u;rw [rngT] at h2;exact ⟨h2.1,h2.2.1,edsP_rng us _ h2.2.2.2⟩
def allK (f:Nat->Nat->Bool) (c k:Nat):Bool:=(List.range k).all (f c)
theorem allK_succ (f:Nat->Nat->Bool) (c k:Nat):allK f c (k + 1)=(allK f c k && f c k):=by simp [allK,List.range_succ]
theorem lstB_nil (f:Nat->Nat->Bool) (n c:Nat):lstB f n [] c=allK f c n:=by simp [lstB,overB,allK]
abbrev bo1St (n:Nat) (f:Nat->Nat->Bool) (e:Nat):St:=⟨[(0,⟨[],.sl 1 (dMat (matB n f)) none⟩),(3,⟨[],.v (.int .i64 e)⟩)],[],[]⟩
abbrev bo2St (n:Nat) (f:Nat->Nat->Bool) (e:Nat) (x:Bool) (k:Nat):St:=⟨[(0,⟨[],.sl 1 (dMat (matB n f)) none⟩),(3,⟨[],.v (.int .i64 e)⟩),(4,⟨[],.v (.bool x)⟩),(5,⟨[],.v (.int .i64 k)⟩)],[],[]⟩
theorem bottom20_spec (n:Nat) (f:Nat->Nat->Bool) (hn:n<=64):EvP Tryz.prog 144 [.sl 1 (dMat (matB n f)) none] (.v (.int .i64 (oz (leastN f n [])))):=by
 have hml:=dMatB_len n f;refine ev_go (P:=Tryz.prog) tt tt_ok 5000 30 [.tmp 2] Tryz.func144 rfl Tryz.ntmps144 rfl (nL rfl) (fun E9 w9 hn9 hm9=>?_);refine loop_i (fun j st=>∃ e:Nat,st=bo1St n f e/\e<=n/\(∀ c,c < e->lstB f n [] c=false)/\j=n - e) n (bo1St n f 0) (weak_mk ⟨_,rfl⟩ wA rfl rfl rfl wB) ⟨0,rfl,by omega,fun _ h=>by omega,by omega⟩ ?_;rintro j st ⟨e,rfl,he,hno,rfl⟩;refine br (fun hL=>?_) (fun hL=>?_)
 ·have hlt:e < n:=by simpa [hml] using hL
  refine loop_i (fun j st=>∃ k:Nat,st=bo2St n f e (allK f e k) k/\k<=n/\j=n - k) n (bo2St n f e (allK f e 0) 0) (weak_mk ⟨_,rfl⟩ wA rfl rfl rfl (by repeat' (first | exact trivial | exact we_rfl rfl | exact we_bool rfl | refine ⟨⟨_,rfl,?_⟩,?_⟩))) ⟨0,rfl,by omega,by omega⟩ ?_;rintro j st ⟨k,rfl,hk,rfl⟩;refine br (fun hL2=>?_) (fun hL2=>?_)
  ·have hkt:k < n:=by simpa [hml] using hL2
   have hsu:=allK_succ f e k;refine br (fun g=>?_) (fun g=>?_)
   ·refine ⟨_,⟨by omega,mrow_get hlt⟩,?_⟩;refine ⟨_,⟨by omega,mcell_get hkt⟩,?_⟩;have g:allK f e k=true:=by simpa using g
    rw [g,Bool.true_and] at hsu;exact ⟨bo2St n f e (allK f e (k + 1)) (k + 1),(weak_mk ⟨_,rfl⟩ wA rfl rfl rfl (by repeat' (first | exact trivial | exact we_rfl rfl | exact we_int (nxt hkt (by omega)) | exact we_bool hsu.symm | refine ⟨⟨_,rfl,?_⟩,?_⟩))),n - (k + 1),by omega,k + 1,rfl,by omega,rfl⟩
   ·have g:allK f e k=false:=by simpa using g
    rw [g,Bool.false_and] at hsu;exact ⟨bo2St n f e (allK f e (k + 1)) (k + 1),(weak_mk ⟨_,rfl⟩ wA rfl rfl rfl (by repeat' (first | exact trivial | exact we_rfl rfl | exact we_int (nxt hkt (by omega)) | exact we_bool hsu.symm | refine ⟨⟨_,rfl,?_⟩,?_⟩))),n - (k + 1),by omega,k + 1,rfl,by omega,rfl⟩
  ·have hge:k=n:=by have:=hL2;simp [hml] at this;omega
   subst hge;refine br (fun g=>?_) (fun g=>?_)
   ·have g:lstB f k [] e=true:=by rw [lstB_nil];exact g
    rw [leastN,firstN_some hlt g hno];exact (rfl:_=_)
   ·have g:lstB f k [] e=false:=by rw [lstB_nil];exact g
    refine ⟨bo1St k f (e + 1),(weak_mk ⟨_,rfl⟩ wA rfl rfl rfl (wNB hlt)),k - (e + 1),by omega,e + 1,rfl,by omega,fun j hj=>?_,rfl⟩;rcases Nat.lt_succ_iff_lt_or_eq.1 hj with hj | rfl
    ·exact hno j hj
    ·exact g
 ·have hge:e=n:=by have:=hL;simp [hml] at this;omega
  subst hge;rw [leastN,firstN_none hno];exact (rfl:_=_)
theorem all_drop {α:Type} {l:List α} {e:Nat} {x:α} {p:α->Bool} (h:l[e]? = some x):(l.drop e).all p=(p x && (l.drop (e + 1)).all p):=by
 obtain ⟨h1,h2⟩:=List.getElem?_eq_some_iff.1 h;rw [List.drop_eq_getElem_cons h1,h2,List.all_cons]
theorem pright1_spec (s:Stp) (hs:s.s.size<=4611686018427387904):EvP Tryz.prog 343 [.agg (dStp s)] (.v (.bool (rightS s))):=by
 have hr:=right_spec s.s hs;obtain ⟨k,n,t⟩:=s;have hF:rightS ⟨k,n,t⟩=if k=1∨k=5 then decide (n=0) && nameOK t else if k=2 then decide (0<=n) && decide (t=⟨#[]⟩) else if k=3∨k=4 then decide (n=0) && decide (t=⟨#[]⟩) else false:=rfl
 generalize rightS ⟨k,n,t⟩=F at hF ⊢;refine ev_go (P:=Tryz.prog) tt tt_ok 5000 39 [.tmp 2] Tryz.func343 rfl Tryz.ntmps343 rfl (nL rfl) (fun E9 w9 hn9 hm9=>?_);refine br (fun c=>?_) (fun c=>?_)
 ·have c:k=1:=by simpa using c
  rw [if_pos (.inl c)] at hF;refine br (fun _=>?_) (fun g=>absurd g (by simp [c]));refine br (fun g=>?_) (fun g=>?_)
  ·have g:n=0:=by simpa using g
   refine call_p en118 (hr) ax rfl ?_;refine (congrArg (fun b=>DV.v (.bool b)) ?_:_=_);rw [hF];simp [g,pickB]
  ·have g:¬ n=0:=by simpa using g
   refine (congrArg (fun b=>DV.v (.bool b)) ?_:_=_);rw [hF];simp [g,pickB]
 have c1:¬ k=1:=by simpa using c
 refine br (fun c=>?_) (fun c=>?_)
 ·have c:k=5:=by simpa using c
  rw [if_pos (.inr c)] at hF;refine br (fun g=>?_) (fun g=>?_)
  ·have g:n=0:=by simpa using g
   refine call_p en118 (hr) ax rfl ?_;refine (congrArg (fun b=>DV.v (.bool b)) ?_:_=_);rw [hF];simp [g,pickB]
  ·have g:¬ n=0:=by simpa using g
   refine (congrArg (fun b=>DV.v (.bool b)) ?_:_=_);rw [hF];simp [g,pickB]
 have c5:¬ k=5:=by simpa using c
 rw [if_neg (by omega)] at hF;refine br (fun c=>?_) (fun c=>?_)
 ·have c:k=2:=by simpa using c
  rw [if_pos c] at hF;refine (congrArg (fun b=>DV.v (.bool b)) ?_:_=_);rw [hF];cases decide (0<=n)<;>rfl
 have c2:¬ k=2:=by simpa using c
 rw [if_neg c2] at hF;refine br (fun c=>?_) (fun c=>?_)
 ·have c:k=3:=by simpa using c
  rw [if_pos (.inl c)] at hF;refine br (fun _=>?_) (fun g=>absurd g (by simp [c]));refine (congrArg (fun b=>DV.v (.bool b)) ?_:_=_);rw [hF];cases decide (n=0)<;>rfl
 have c3:¬ k=3:=by simpa using c
 refine br (fun c=>?_) (fun c=>?_)
 ·have c:k=4:=by simpa using c
  rw [if_pos (.inr c)] at hF;refine (congrArg (fun b=>DV.v (.bool b)) ?_:_=_);rw [hF];cases decide (n=0)<;>rfl
 have c4:¬ k=4:=by simpa using c
 rw [if_neg (by omega)] at hF;subst hF;exact (rfl:_=_)
abbrev prSt (l:List Stp) (e:Nat):St:=⟨[(8,⟨[],.sl 3 (dStps l) none⟩),(9,⟨[],.v (.int .i64 (dStps l).length)⟩),(10,⟨[],.v (.int .i64 e)⟩)],[],[]⟩
theorem pright_spec (l:List Stp) (hs:∀ s∈l,s.s.size<=4611686018427387904):EvP Tryz.prog 248 [.sl 3 (dStps l) none] (.v (.bool (rightP l))):=by
 have hdl:=dStps_len l;have hF:rightP l=(decide (l.length<=64) && l.all rightS):=rfl;generalize rightP l=F at hF ⊢;refine ev_go (P:=Tryz.prog) tt tt_ok 5000 18 [.tmp 2] Tryz.func248 rfl Tryz.ntmps248 rfl (nL rfl) (fun E9 w9 hn9 hm9=>?_);refine br (fun g=>?_) (fun g=>?_)
 ·have:¬ l.length<=64:=by simp [hdl] at g;omega
  rw [decide_eq_false this,Bool.false_and] at hF;subst hF;exact (rfl:_=_)
 have hle:l.length<=64:=by simp [hdl] at g;omega
 rw [decide_eq_true hle,Bool.true_and] at hF;refine loop_i (fun j st=>∃ e:Nat,st=prSt l e/\e<=l.length/\F=(l.drop e).all rightS/\j=l.length - e) l.length (prSt l 0) (weak_mk ⟨_,rfl⟩ wA rfl rfl rfl wB) ⟨0,rfl,by omega,hF,by omega⟩ ?_;rintro j st ⟨e,rfl,he,heq,rfl⟩;refine br (fun hL=>?_) (fun hL=>?_)
 ·have hlt:e < l.length:=by simpa [hdl] using hL
  obtain ⟨x,hx⟩:∃ x,l[e]? = some x:=⟨_,gE hlt⟩;have h1:=pright1_spec x (hs x (mG hx));rw [all_drop hx] at heq;obtain ⟨xk,xn,xs⟩:=x;refine ⟨_,⟨by omega,dStps_get hx⟩,?_⟩;refine call_p en343 (h1) ax rfl ?_;refine br (fun g=>?_) (fun g=>?_)
  ·have g:rightS ⟨xk,xn,xs⟩=false:=by simpa using g
   rw [g,Bool.false_and] at heq;subst heq;exact (rfl:_=_)
  ·have g:rightS ⟨xk,xn,xs⟩=true:=by simpa using g
   rw [g,Bool.true_and] at heq;exact ⟨prSt l (e + 1),(weak_mk ⟨_,rfl⟩ wA rfl rfl rfl (wNB hlt)),l.length - (e + 1),by omega,e + 1,rfl,by omega,heq,rfl⟩
 ·have hge:l.length<=e:=by simpa [hdl] using hL
  rw [List.drop_eq_nil_of_le hge] at heq;subst heq;exact (rfl:_=_)
abbrev r09St (l:List Stp) (e:Nat):St:=⟨[(0,⟨[],.sl 3 (dStps l) none⟩),(3,⟨[],.v (.int .i64 e)⟩)],[],[]⟩
theorem right09_spec (l:List Stp) (hs:∀ s∈l,s.s.size<=4611686018427387904):EvP Tryz.prog 345 [.sl 3 (dStps l) none] (.v (.bool (rightP l))):=by
 have hdl:=dStps_len l;have hF:rightP l=(decide (l.length<=64) && l.all rightS):=rfl;generalize rightP l=F at hF ⊢;refine ev_go (P:=Tryz.prog) tt tt_ok 5000 66 [.tmp 2] Tryz.func345 rfl Tryz.ntmps345 rfl (nL rfl) (fun E9 w9 hn9 hm9=>?_);refine br (fun g=>?_) (fun g=>?_)
 ·have:¬ l.length<=64:=by simp [hdl] at g;omega
  rw [decide_eq_false this,Bool.false_and] at hF;subst hF;exact (rfl:_=_)
 have hle:l.length<=64:=by simp [hdl] at g;omega
 rw [decide_eq_true hle,Bool.true_and] at hF;refine loop_i (fun j st=>∃ e:Nat,st=r09St l e/\e<=l.length/\F=(l.drop e).all rightS/\j=l.length - e) l.length (r09St l 0) (weak_mk ⟨_,rfl⟩ wA rfl rfl rfl wB) ⟨0,rfl,by omega,hF,by omega⟩ ?_;rintro j st ⟨e,rfl,he,heq,rfl⟩;refine br (fun hL=>?_) (fun hL=>?_)
 ·have hlt:e < l.length:=by simpa [hdl] using hL
  obtain ⟨x,hx⟩:∃ x,l[e]? = some x:=⟨_,gE hlt⟩;have h1:=right8_spec x.s (hs x (mG hx));rw [all_drop hx] at heq;have hFr:∀ k n t,rightS ⟨k,n,t⟩=if k=1∨k=5 then decide (n=0) && nameOK t else if k=2 then decide (0<=n) && decide (t=⟨#[]⟩) else if k=3∨k=4 then decide (n=0) && decide (t=⟨#[]⟩) else false:=fun _ _ _=>rfl
  obtain ⟨xk,xn,xs⟩:=x;rw [hFr] at heq;refine ⟨_,⟨by omega,dStps_get hx⟩,?_⟩
  have hne:nameOK xs=true->xs≠⟨#[]⟩:=by
   intro h e;rw [e] at h
   revert h
   decide
  have hk:xk=1∨xk=5∨xk=2∨xk=3∨xk=4∨(xk < 1/\¬ 5 < xk/\¬ xk=1/\¬ xk=2/\¬ xk=3/\¬ xk=4/\¬ xk=5)∨(¬ xk < 1/\5 < xk/\¬ xk=1/\¬ xk=2/\¬ xk=3/\¬ xk=4/\¬ xk=5):=by omega
  have hd:(xn < 0)↔¬ (0<=xn):=by omega
  have hgo:∀ b,(if xk=1∨xk=5 then decide (xn=0) && nameOK xs else if xk=2 then decide (0<=xn) && decide (xs=⟨#[]⟩) else if xk=3∨xk=4 then decide (xn=0) && decide (xs=⟨#[]⟩) else false)=b->F=(b && (l.drop (e + 1)).all rightS):=fun b h=>by rw [heq,h]
  refine br (fun g1=>?_) (fun g1=>?_)
  ·refine br (fun g2=>?_) (fun g2=>?_)
   ·refine call_p en290 (h1) ax rfl ?_;refine br (fun g3=>?_) (fun g3=>?_)
    ·have hF:=hgo false (by
      clear heq hgo hFr h1 hx
      rcases hk with rfl | rfl | rfl | rfl | rfl | ⟨k1,k2,k3,k4,k5,k6,k7⟩ | ⟨k1,k2,k3,k4,k5,k6,k7⟩<;>by_cases h0:xs=⟨#[]⟩<;>by_cases hz:xn=0<;>by_cases hn0:0<=xn<;>cases hnm:nameOK xs<;>first | (exact absurd h0 (hne hnm)) | (simp [lastG,pickB,hd,h0,hz,hn0,hnm,k1,k2,k3,k4,k5,k6,k7] at g1 g2 g3 ⊢;done) | (simp [lastG,pickB,hd,h0,hz,hn0,hnm] at g1 g2 g3 ⊢;done) | omega)
     rw [hF,Bool.false_and];exact (rfl:_=_)
    ·have hF:=hgo true (by
      clear heq hgo hFr h1 hx
      rcases hk with rfl | rfl | rfl | rfl | rfl | ⟨k1,k2,k3,k4,k5,k6,k7⟩ | ⟨k1,k2,k3,k4,k5,k6,k7⟩<;>by_cases h0:xs=⟨#[]⟩<;>by_cases hz:xn=0<;>by_cases hn0:0<=xn<;>cases hnm:nameOK xs<;>first | (exact absurd h0 (hne hnm)) | (simp [lastG,pickB,hd,h0,hz,hn0,hnm,k1,k2,k3,k4,k5,k6,k7] at g1 g2 g3 ⊢;done) | (simp [lastG,pickB,hd,h0,hz,hn0,hnm] at g1 g2 g3 ⊢;done) | omega)
     rw [Bool.true_and] at hF;exact ⟨r09St l (e + 1),(weak_mk ⟨_,rfl⟩ wA rfl rfl rfl (wNB hlt)),l.length - (e + 1),by omega,e + 1,rfl,by omega,hF,rfl⟩
   ·refine br (fun g3=>?_) (fun g3=>?_)
    ·have hF:=hgo false (by
      clear heq hgo hFr h1 hx
      rcases hk with rfl | rfl | rfl | rfl | rfl | ⟨k1,k2,k3,k4,k5,k6,k7⟩ | ⟨k1,k2,k3,k4,k5,k6,k7⟩<;>by_cases h0:xs=⟨#[]⟩<;>by_cases hz:xn=0<;>by_cases hn0:0<=xn<;>cases hnm:nameOK xs<;>first | (exact absurd h0 (hne hnm)) | (simp [lastG,pickB,hd,h0,hz,hn0,hnm,k1,k2,k3,k4,k5,k6,k7] at g1 g2 g3 ⊢;done) | (simp [lastG,pickB,hd,h0,hz,hn0,hnm] at g1 g2 g3 ⊢;done) | omega)
     rw [hF,Bool.false_and];exact (rfl:_=_)
    ·have hF:=hgo true (by
      clear heq hgo hFr h1 hx
      rcases hk with rfl | rfl | rfl | rfl | rfl | ⟨k1,k2,k3,k4,k5,k6,k7⟩ | ⟨k1,k2,k3,k4,k5,k6,k7⟩<;>by_cases h0:xs=⟨#[]⟩<;>by_cases hz:xn=0<;>by_cases hn0:0<=xn<;>cases hnm:nameOK xs<;>first | (exact absurd h0 (hne hnm)) | (simp [lastG,pickB,hd,h0,hz,hn0,hnm,k1,k2,k3,k4,k5,k6,k7] at g1 g2 g3 ⊢;done) | (simp [lastG,pickB,hd,h0,hz,hn0,hnm] at g1 g2 g3 ⊢;done) | omega)
     rw [Bool.true_and] at hF;exact ⟨r09St l (e + 1),(weak_mk ⟨_,rfl⟩ wA rfl rfl rfl (wNB hlt)),l.length - (e + 1),by omega,e + 1,rfl,by omega,hF,rfl⟩
  ·have g2:=g1;have g3:=g1
   have hF:=hgo false (by
     clear heq hgo hFr h1 hx
     rcases hk with rfl | rfl | rfl | rfl | rfl | ⟨k1,k2,k3,k4,k5,k6,k7⟩ | ⟨k1,k2,k3,k4,k5,k6,k7⟩<;>by_cases h0:xs=⟨#[]⟩<;>by_cases hz:xn=0<;>by_cases hn0:0<=xn<;>cases hnm:nameOK xs<;>first | (exact absurd h0 (hne hnm)) | (simp [lastG,pickB,hd,h0,hz,hn0,hnm,k1,k2,k3,k4,k5,k6,k7] at g1 g2 g3 ⊢;done) | (simp [lastG,pickB,hd,h0,hz,hn0,hnm] at g1 g2 g3 ⊢;done) | omega)
   rw [hF,Bool.false_and];exact (rfl:_=_)
 ·have hge:l.length<=e:=by simpa [hdl] using hL
  rw [List.drop_eq_nil_of_le hge] at heq;subst heq;exact (rfl:_=_)
def edN (K:List Nat) (e:Ed):Nat:=K.getD e.to.toNat 0
def leastR (K:List Nat):List Ed->Nat->Nat
 | [],m=>m + 1
 | e :: r,m=>if edN K e=0 then 0 else leastR K r (max m (edN K e))
def leastU (K:List Nat):List Ed->Nat->Nat
 | [],b=>if b=0 then 0 else b + 1
 | e :: r,b=>if e.bare=true then 1 else if 0 < edN K e/\(b=0∨edN K e < b) then leastU K r (edN K e) else leastU K r b
def leastF (n:Nd) (K:List Nat):Nat:=if n.kind=7 then leastR K n.edges 0 else if n.kind=8 then leastU K n.edges 0 else 1
def depN (ND:List Nd):Nat->List Nat
 | 0=>List.replicate ND.length 0
 | d + 1=>ND.map fun n=>leastF n (depN ND d)
theorem depN_len (ND:List Nd):∀ d,(depN ND d).length=ND.length
 | 0=>by simp [depN]
 | d + 1=>by simp [depN]
theorem depN_get (ND:List Nd) (d j:Nat):(depN ND (d + 1)).getD j 0=match ND[j]? with | none=>0 | some n=>leastF n (depN ND d):=by
 simp only [depN,List.getD_eq_getElem?_getD,List.getElem?_map];cases ND[j]?<;>rfl
def RndR (d:Nat) (A B:List Nat):Prop:=∀ j:Nat,(0 < A.getD j 0->B.getD j 0=A.getD j 0/\A.getD j 0<=d)/\(A.getD j 0=0->B.getD j 0=0∨B.getD j 0=d + 1)
theorem rndR_le {d:Nat} {A B:List Nat} (h:RndR d A B) (j:Nat):B.getD j 0<=d + 1:=by
 obtain ⟨h1,h2⟩:=h j;rcases Nat.eq_zero_or_pos (A.getD j 0) with h3 | h3
 ·rcases h2 h3 with h4 | h4<;>omega
 ·have:=h1 h3;omega
theorem leastR_zero {K:List Nat}:∀ {es:List Ed} {m:Nat},leastR K es m=0↔∃ e∈es,edN K e=0
 | [],m=>by simp [leastR]
 | e :: r,m=>by
  rw [leastR];by_cases h:edN K e=0
  ·rw [if_pos h];exact ⟨fun _=>⟨e,by simp,h⟩,fun _=>rfl⟩
  ·rw [if_neg h,leastR_zero];constructor
   ·rintro ⟨x,hx,h2⟩;exact ⟨x,by simp [hx],h2⟩
   ·rintro ⟨x,hx,h2⟩;rcases List.mem_cons.1 hx with rfl | hx
    ·exact (h h2).elim
    ·exact ⟨x,hx,h2⟩
theorem leastR_same {d:Nat} {A B:List Nat} (hR:RndR d A B):∀ {es:List Ed} {m:Nat},0 < leastR A es m->leastR B es m=leastR A es m
 | [],m,_=>rfl
 | e :: r,m,h=>by
  rw [leastR] at h ⊢;rw [leastR];by_cases h0:edN A e=0
  ·rw [if_pos h0] at h;omega
  rw [if_neg h0] at h ⊢;have h1:edN B e=edN A e:=((hR e.to.toNat).1 (by unfold edN at h0;omega)).1;rw [h1,if_neg h0];exact leastR_same hR h
theorem leastR_new {d:Nat} {A B:List Nat} (hR:RndR d A B):∀ {es:List Ed} {m:Nat},m<=d + 1->(m=d + 1∨∃ e∈es,edN A e=0)->leastR B es m=0∨leastR B es m=d + 2
 | [],m,_,h=>by
  rcases h with h | ⟨e,he,_⟩
  ·right;rw [leastR,h]
  ·cases he
 | e :: r,m,hm,h=>by
  rw [leastR];by_cases h0:edN B e=0
  ·rw [if_pos h0];exact .inl rfl
  rw [if_neg h0];have hle:edN B e<=d + 1:=rndR_le hR _;refine leastR_new hR (by omega) ?_;rcases h with h | ⟨x,hx,h⟩
  ·left;omega
  ·rcases List.mem_cons.1 hx with rfl | hx
   ·left;have:=(hR x.to.toNat).2 h;unfold edN at h0 hle ⊢;omega
   ·exact .inr ⟨x,hx,h⟩
theorem leastU_rnd {d:Nat} {A B:List Nat} (hR:RndR d A B):∀ {es:List Ed} {a b:Nat},(0 < a->b=a/\a<=d)->(a=0->b=0∨b=d + 1) ->
  (0 < leastU A es a->leastU B es b=leastU A es a)/\(leastU A es a=0->leastU B es b=0∨leastU B es b=d + 2)
 | [],a,b,h1,h2=>by
  rw [leastU,leastU];rcases Nat.eq_zero_or_pos a with h | h
  ·rw [if_pos h];refine ⟨fun h=>by omega,fun _=>?_⟩;rcases h2 h with h3 | h3
   ·left;rw [if_pos h3]
   ·right;rw [if_neg (by omega)];omega
  ·obtain ⟨h3,h4⟩:=h1 h;rw [if_neg (by omega),if_neg (by omega),h3];exact ⟨fun _=>rfl,fun h=>by omega⟩
 | e :: r,a,b,h1,h2=>by
  rw [leastU,leastU];by_cases hb:e.bare=true
  ·rw [if_pos hb,if_pos hb];exact ⟨fun _=>rfl,fun h=>by omega⟩
  rw [if_neg hb,if_neg hb];obtain ⟨g1,g2⟩:=hR e.to.toNat;change (0 < edN A e->edN B e=edN A e/\edN A e<=d) at g1;change (edN A e=0->edN B e=0∨edN B e=d + 1) at g2;by_cases c1:0 < edN A e/\(a=0∨edN A e < a)<;>by_cases c2:0 < edN B e/\(b=0∨edN B e < b)
  ·rw [if_pos c1,if_pos c2];exact leastU_rnd hR (by omega) (by omega)
  ·rw [if_pos c1,if_neg c2];exact leastU_rnd hR (by omega) (by omega)
  ·rw [if_neg c1,if_pos c2];exact leastU_rnd hR (by omega) (by omega)
  ·rw [if_neg c1,if_neg c2];exact leastU_rnd hR (by omega) (by omega)
theorem leastF_rnd {d:Nat} {A B:List Nat} (hR:RndR d A B) (n:Nd):(0 < leastF n A->leastF n B=leastF n A)/\(leastF n A=0->leastF n B=0∨leastF n B=d + 2):=by
 unfold leastF;by_cases h7:n.kind=7
 ·rw [if_pos h7,if_pos h7];exact ⟨leastR_same hR,fun h=>leastR_new hR (by omega) (.inr (leastR_zero.1 h))⟩
 rw [if_neg h7,if_neg h7];by_cases h8:n.kind=8
 ·rw [if_pos h8,if_pos h8];exact leastU_rnd hR (by omega) (by omega)
 rw [if_neg h8,if_neg h8];exact ⟨fun _=>rfl,fun h=>by omega⟩
theorem edN_zero (N:Nat) (e:Ed):edN (List.replicate N 0) e=0:=by
 unfold edN;rw [List.getD_eq_getElem?_getD,List.getElem?_replicate];split<;>rfl
theorem leastU_none (N:Nat):∀ es:List Ed,leastU (List.replicate N 0) es 0=0∨leastU (List.replicate N 0) es 0=1
 | []=>.inl rfl
 | e :: r=>by
  rw [leastU,edN_zero];by_cases hb:e.bare=true
  ·rw [if_pos hb];exact .inr rfl
  ·rw [if_neg hb,if_neg (by omega)];exact leastU_none N r
theorem leastF_none (N:Nat) (n:Nd):leastF n (List.replicate N 0)=0∨leastF n (List.replicate N 0)=1:=by
 unfold leastF;by_cases h7:n.kind=7
 ·rw [if_pos h7]
  cases h:n.edges with
  | nil=>right;rfl
  | cons e r=>left;rw [leastR,edN_zero,if_pos rfl]
 rw [if_neg h7];by_cases h8:n.kind=8
 ·rw [if_pos h8];exact leastU_none N n.edges
 ·rw [if_neg h8];exact .inr rfl
theorem depN_zero (ND:List Nd) (j:Nat):(depN ND 0).getD j 0=0:=by
 rw [depN,List.getD_eq_getElem?_getD,List.getElem?_replicate];split<;>rfl
theorem depN_rnd (ND:List Nd):∀ d,RndR d (depN ND d) (depN ND (d + 1))
 | 0=>fun j=>by
  refine ⟨fun h=>by rw [depN_zero] at h;omega,fun _=>?_⟩;rw [depN_get]
  cases ND[j]? with
  | none=>exact .inl rfl
  | some n=>exact leastF_none _ n
 | d + 1=>fun j=>by
  have ih:=depN_rnd ND d;rw [depN_get ND (d + 1),depN_get ND d]
  cases hn:ND[j]? with
  | none=>exact ⟨fun h=>by simp at h,fun _=>.inl rfl⟩
  | some n=>
   obtain ⟨h1,h2⟩:=leastF_rnd ih n;refine ⟨fun h=>⟨h1 h,?_⟩,h2⟩;have:=rndR_le ih j;rw [depN_get ND d,hn] at this;exact this
def posL (K:List Nat):List Bool:=K.map fun k=>decide (0 < k)
theorem posL_get (K:List Nat) (j:Nat):(posL K).getD j false=decide (0 < K.getD j 0):=by
 unfold posL;simp only [List.getD_eq_getElem?_getD,List.getElem?_map];cases K[j]?<;>simp
theorem posL_len (K:List Nat):(posL K).length=K.length:=by simp [posL]
theorem getD_ext {A B:List Nat} (hl:A.length=B.length) (h:∀ j,A.getD j 0=B.getD j 0):A=B:=by
 refine List.ext_getElem hl fun j h1 h2=>?_;have:=h j;simp only [List.getD_eq_getElem?_getD,gE h1,gE h2,Option.getD_some] at this;exact this
def inK (K:List Bool) (e:Ed):Bool:=e.bare || K.getD e.to.toNat false
def hvB (n:Nd) (K:List Bool):Bool:=if n.kind < 7 then true else if n.kind=7 then n.edges.all (inK K) else n.edges.any (inK K)
theorem leastU_pos {K:List Nat}:∀ {es:List Ed} {b:Nat},0 < leastU K es b↔(0 < b∨es.any (inK (posL K))=true)
 | [],b=>by
  rw [leastU];by_cases h:b=0
  ·rw [if_pos h];simp [h]
  ·rw [if_neg h];simp;omega
 | e :: r,b=>by
  have hg:(posL K).getD e.to.toNat false=decide (0 < edN K e):=posL_get K _;rw [leastU,List.any_cons];by_cases hb:e.bare=true
  ·rw [if_pos hb];simp [inK,hb]
  ·rw [if_neg hb]
   have hin:inK (posL K) e=decide (0 < edN K e):=by
    unfold inK;rw [hg];simp [hb]
   rw [hin,Bool.or_eq_true,decide_eq_true_eq];split
   ·rename_i h1;rw [leastU_pos];constructor
    ·exact fun _=>.inr (.inl h1.1)
    ·exact fun _=>.inl h1.1
   ·rename_i h1;rw [leastU_pos];constructor
    ·rintro (h | h)
     ·exact .inl h
     ·exact .inr (.inr h)
    ·rintro (h | h | h)
     ·exact .inl h
     ·by_cases hb0:b=0
      ·exact (h1 ⟨h,.inl hb0⟩).elim
      ·left;omega
     ·exact .inr h
theorem leastF_pos {n:Nd} {K:List Nat} (h8:n.kind<=8) (hb:∀ e∈n.edges,e.bare=true->n.kind=8):(0 < leastF n K)↔hvB n (posL K)=true:=by
 unfold leastF hvB;by_cases h7:n.kind=7
 ·rw [if_pos h7,if_neg (by omega),if_pos h7,List.all_eq_true];have:0 < leastR K n.edges 0↔¬ leastR K n.edges 0=0:=by omega
  rw [this,leastR_zero];constructor
  ·intro h e he
   have h1:e.bare=false:=by
    cases hbe:e.bare
    ·rfl
    ·have:=hb e he hbe;omega
   have h2:¬ edN K e=0:=fun h3=>h ⟨e,he,h3⟩;have hg:(posL K).getD e.to.toNat false=decide (0 < edN K e):=posL_get K _;simp only [inK,h1,hg,Bool.false_or,decide_eq_true_eq];omega
  ·rintro h ⟨e,he,h3⟩
   have h1:e.bare=false:=by
    cases hbe:e.bare
    ·rfl
    ·have:=hb e he hbe;omega
   have hg:(posL K).getD e.to.toNat false=decide (0 < edN K e):=posL_get K _;have:=h e he;simp only [inK,h1,hg,Bool.false_or,decide_eq_true_eq] at this;omega
 rw [if_neg h7];by_cases h8':n.kind=8
 ·rw [if_pos h8',if_neg (by omega),if_neg h7,leastU_pos];simp
 ·rw [if_neg h8',if_pos (by omega)];simp
theorem depN_ref {ND:List Nd} (hN:∀ n∈ND,n.kind<=8/\∀ e∈n.edges,e.bare=true->n.kind=8) (d:Nat) {i:Nat} {n:Nd} (h:ND[i]? = some n) :
  (depN ND (d + 1)).getD i 0=(if hvB n (posL (depN ND d))=true/\(depN ND d).getD i 0=0 then d + 1 else (depN ND d).getD i 0) /\
  (posL (depN ND (d + 1))).getD i false=hvB n (posL (depN ND d)):=by
 obtain ⟨h8,hb⟩:=hN n (mG h);have hp:=leastF_pos (K:=depN ND d) h8 hb;have hg:(depN ND (d + 1)).getD i 0=leastF n (depN ND d):=by rw [depN_get,h]
 obtain ⟨h1,h2⟩:=(depN_rnd ND d) i;refine ⟨?_,?_⟩
 ·rcases Nat.eq_zero_or_pos ((depN ND d).getD i 0) with h3 | h3
  ·by_cases h4:hvB n (posL (depN ND d))=true
   ·rw [if_pos ⟨h4,h3⟩];have:=h2 h3;rw [<- hp,<- hg] at h4;omega
   ·rw [if_neg (fun h=>h4 h.1),h3];rw [<- hp,<- hg] at h4;omega
  ·rw [if_neg (by omega)];exact (h1 h3).1
 ·rw [posL_get,hg,Bool.eq_iff_iff,decide_eq_true_eq];exact hp
def cN (l:List Nat):List DV:=l.map fun (z:Nat)=>DV.v (.int .i64 (z:Int))
theorem cN_len (l:List Nat):(cN l).length=l.length:=by simp [cN]
theorem cN_get {l:List Nat} {i z:Nat} (h:l[i]? = some z):(cN l)[i]? = some (DV.v (.int .i64 (z:Int))):=by simp [cN,h]
theorem cN_set (l:List Nat) (i z:Nat):(cN l).set i (DV.v (.int .i64 (z:Int)))=cN (l.set i z):=by simp [cN,List.map_set]
theorem dInts_flat (l:List Nat):(dInts l).flatten=cN l:=by
 induction l with
 | nil=>rfl
 | cons b r ih=>simp only [dInts,cN,List.map_cons,List.flatten_cons] at ih ⊢;rw [ih];all_goals rfl
theorem repN (n:Nat):(List.replicate n (vL [Value.int .i64 0])).flatten=cN (List.replicate n 0):=by
 induction n with
 | zero=>rfl
 | succ n ih=>simp only [List.replicate_succ,List.flatten_cons,ih];rfl
theorem weL_cN {n m:Nat} {tk:List TkE} {l:List DV} {r:List Nat} (h:l=cN r):WeL n m tk l (cN r):=by
 subst h;refine weL_sc _ fun x hx=>?_;obtain ⟨z,_,rfl⟩:=List.mem_map.1 hx;exact ⟨_,rfl⟩
theorem ms_n {bx:List (List DV)} {N n0 m0 n i:Nat} {r:List Nat} (hr:r.length=n) (hN:N<=i) (hb:bx[i]? = some (cN r)):Cc bx N n0 m0 (.sl 1 (dInts r) none) (.ms i 1 0 n n):=by
 simp only [Cc];refine Or.inr (Or.inr (Or.inl ⟨i,0,n,_,by rw [dInts_len,hr],hN,hb,?_,?_,?_⟩))
 ·rw [dInts_flat,List.drop_zero,List.take_of_length_le (by rw [cN_len,dInts_len];omega)]
 ·intro x hx;simp only [dInts,List.mem_map] at hx;obtain ⟨_,_,rfl⟩:=hx;rfl
 ·intro x hx;rw [dInts_flat] at hx;obtain ⟨_,_,rfl⟩:=List.mem_map.1 hx;exact ⟨_,rfl⟩
end Go.Proofs.YtadbccicdbopcaaGreat
namespace Go.Proofs.YtadbccicdbopcaaGreat
namespace Dv
open Go Go.RowKit
section
variable {P:Program} {ops:Array Oper} {C:World->Prop} {Q:Act->World->Prop} {W:Nat->Bool} {x:Nat}
def runX (P:Program) (ops:Array Oper) (W:Nat->Bool) (C:World->Prop) (Q:Act->World->Prop) (x:Nat):List Nat->Act->World->Prop
 | [],a,w=>runT P ops W C Q [x] a w
 | i :: r,a,w=>
  match ops[i]? with
  | none=>False
  | some o=>
   if ordB ops ops.size x i=true then runT P ops W C Q (x :: i :: r) a w
   else if isE o.op=true then runT P ops W C Q (x :: i :: r) a w/\stepX P ops o a w fun a' w'=>(W i=false->C w->C w')/\runX P ops W C Q x r a' w'
   else ∃ v,Yl P ops C o v a/\(isL o.op=true->C w)/\runX P ops W C Q x r (a.put o.dst v) w
theorem runX_now {xo:Oper} (hsel:∀ (j:Nat) (o:Oper) cs b,ops[j]? = some o->o.op ≠ .select cs b) (hx:ops[x]? = some xo) (hxE:isE xo.op=true) (hWx:∀ (j:Nat) (o:Oper),ops[j]? = some o->isL o.op=true->W x=false) :
  ∀ (rem:List Nat) (a:Act) (w:World),runX P ops W C Q x rem a w->(∀ j∈rem,∀ o,ops[j]? = some o->isE o.op=false->ordB ops ops.size x j=false->swapB ops W x j=true) ->
   stepX P ops xo a w (fun a' w'=>(W x=false->C w->C w')/\runT P ops W C Q rem a' w')
 | [],a,w,hr,_=>by
  simp only [runX,runT,hx,hxE,if_true] at hr;exact hr
 | i :: r,a,w,hr,hsw=>by
  have hnow:runT P ops W C Q (x :: i :: r) a w->stepX P ops xo a w (fun a' w'=>(W x=false->C w->C w')/\runT P ops W C Q (i :: r) a' w'):=fun h=>by
   unfold runT at h;rw [hx] at h;simp only [hxE,if_true] at h;exact h
  cases ho:ops[i]? with
  | none=>simp only [runX,ho] at hr
  | some o=>
   simp only [runX,ho] at hr;by_cases hd:ordB ops ops.size x i=true
   ·rw [if_pos hd] at hr;exact hnow hr
   ·rw [if_neg hd] at hr;by_cases he:isE o.op=true
    ·rw [if_pos he] at hr;exact hnow hr.1
    ·rw [if_neg he] at hr;obtain ⟨v,hy,hc,hr'⟩:=hr;have hd':ordB ops ops.size x i=false:=by simpa using hd
     have he':isE o.op=false:=by simpa using he
     obtain ⟨ap1,ap2,_,_⟩:=swapB_spec (hsw i (by simp) o ho he' hd') hx ho;have hsx:=fun cs b=>hsel x xo cs b hx;have hso:=fun cs b=>hsel i o cs b ho;have ih:=runX_now hsel hx hxE hWx r (a.put o.dst v) w hr' (fun j hj=>hsw j (List.mem_cons_of_mem _ hj));refine stepX_mono ?_ (stepX_form ((stepX_put ap2 hsx).1 ih));rintro a' w' ⟨⟨hcw,hr2⟩,u,rfl⟩;refine ⟨hcw,?_⟩;simp only [runT,ho];rw [if_neg he];exact ⟨v,(Yl.same (u:=u) ap1 hso).2 hy,fun hL=>hcw (hWx i o ho hL) (hc hL),hr2⟩
theorem runX_step {π:Nat->Nat} (hsel:∀ (j:Nat) (o:Oper) cs b,ops[j]? = some o->o.op ≠ .select cs b) (hWL:∀ j i x y,π j < π i->ops[i]? = some x->ops[j]? = some y->isL x.op=true->W j=false)
  {i:Nat} {o:Oper} (hi:ops[i]? = some o) (hxL:∀ z,ops[x]? = some z->isL z.op=false) (hxi:x≠i) (hnd:ordB ops ops.size x i=false) (hsx:isE o.op=false->swapB ops W x i=true) :
  ∀ (rem:List Nat) (a:Act) (w:World),(HasL ops (x :: rem)->C w)->runX P ops W C Q x rem a w->i∈rem->(∀ j∈rem,j≠i->π j < π i->swapB ops W j i=true)->(x :: rem).Pairwise (fun a b=>π a < π b) ->
   (isE o.op=true->∀ j∈rem,π j < π i->ordB ops ops.size x j=false) ->
   stepX P ops o a w (fun a' w'=>(W i=false->C w->C w')/\runX P ops W C Q x (rem.erase i) a' w')
 | [],_,_,_,_,hm,_,_,_=>by cases hm
 | h :: rem,a,w,hC,hr,hm,hsw,hp,hdp=>by
  by_cases hih:h=i
  ·subst hih;rw [List.erase_cons_head];simp only [runX,hi] at hr;rw [if_neg (by simp [hnd])] at hr;split at hr
   ·exact hr.2
   ·obtain ⟨v,hy,hc,hr'⟩:=hr;exact stepX_of_Yl hy hc ⟨fun _ h=>h,hr'⟩
  ·have hm':i∈rem:=by
    rcases List.mem_cons.1 hm with e | e
    ·exact (hih e.symm).elim
    ·exact e
   have hp1:=List.pairwise_cons.1 hp;have hp2:=List.pairwise_cons.1 hp1.2;have hlt:π h < π i:=hp2.1 i hm';have hpr:(x :: rem).Pairwise (fun a b=>π a < π b):=List.pairwise_cons.2 ⟨fun y hy=>hp1.1 y (List.mem_cons_of_mem _ hy),hp2.2⟩
   have hswx:isE o.op=false->∀ j∈x :: h :: rem,j≠i->π j < π i->swapB ops W j i=true:=fun he j hj hne hl=>by
    rcases List.mem_cons.1 hj with rfl | hj
    ·exact hsx he
    ·exact hsw j hj hne hl
   have himx:i∈x :: h :: rem:=List.mem_cons_of_mem _ hm
   have herx:(x :: h :: rem).erase i=x :: h :: rem.erase i:=by
    rw [List.erase_cons_tail (by simpa using hxi),List.erase_cons_tail (by simpa using hih)]
   rw [List.erase_cons_tail (by simpa using hih)];have hsw':∀ j∈rem,j≠i->π j < π i->swapB ops W j i=true:=fun j hj=>hsw j (List.mem_cons_of_mem _ hj);have hdp':isE o.op=true->∀ j∈rem,π j < π i->ordB ops ops.size x j=false:=fun he j hj=>hdp he j (List.mem_cons_of_mem _ hj)
   have hCt:HasL ops (x :: rem)->C w:=fun hl=>hC (by
    obtain ⟨l,z,hlm,hz,hL⟩:=hl;rcases List.mem_cons.1 hlm with rfl | hlm
    ·exact ⟨l,z,by simp,hz,hL⟩
    ·exact ⟨l,z,by simp [hlm],hz,hL⟩)
   cases hh:ops[h]? with
   | none=>simp only [runX,hh] at hr
   | some y=>
    obtain ⟨ap1,ap2,hEE,hLW⟩:=swapB_spec (hsw h (by simp) hih hlt) hh hi;have hsy:=fun cs b=>hsel h y cs b hh;have hso:=fun cs b=>hsel i o cs b hi;simp only [runX,hh] at hr;by_cases hd:ordB ops ops.size x h=true
    ·rw [if_pos hd] at hr
     have he:isE o.op=false:=by
      cases he:isE o.op
      ·rfl
      ·have:=hdp he h (by simp) hlt;rw [hd] at this;cases this
     have hst:=run_step hsel hWL hi (x :: h :: rem) a w hC hr himx (hswx he) hp;refine stepX_mono ?_ hst;rintro a' w' ⟨hcw,hr2⟩;refine ⟨hcw,?_⟩;simp only [runX,hh];rw [if_pos hd,<- herx];exact hr2
    ·rw [if_neg hd] at hr;by_cases hE:isE y.op=true
     ·rw [if_pos hE] at hr;obtain ⟨hl,hr⟩:=hr
      have he:isE o.op=false:=by
       cases he:isE o.op
       ·rfl
       ·exact (hEE ⟨hE,he⟩).elim
      obtain ⟨v,hyv⟩:=run_yields (π:=π) hsel hi he (x :: h :: rem) a w hl himx (hswx he) hp;have hci:isL o.op=true->C w:=fun hL=>hC ⟨i,o,himx,hi,hL⟩;have hst:=run_step hsel hWL hi (x :: h :: rem) a w hC hl himx (hswx he) hp;have hk1:=Yl_of_stepX hyv hci hst;refine stepX_of_Yl hyv hci ⟨fun _ h=>h,?_⟩;simp only [runX,hh];rw [if_neg hd,if_pos hE];refine ⟨by rw [<- herx];exact hk1.2,?_⟩;refine (stepX_put ap2 hsy).2 ?_;refine stepX_mono ?_ (stepX_form hr);rintro a' w' ⟨⟨hcw,hr'⟩,u,rfl⟩;refine ⟨hcw,?_⟩
      have hC':HasL ops (x :: rem)->C w':=by
       intro hl';have hl2:=hl';obtain ⟨l,z,hlm,hz,hL⟩:=hl';refine hcw ?_ (hCt hl2);rcases List.mem_cons.1 hlm with e | hlm
       ·rw [e] at hz;rw [hxL z hz] at hL;cases hL
       ·exact hWL h l z y (hp2.1 l hlm) hz hh hL
      have ih:=runX_step hsel hWL hi hxL hxi hnd hsx rem _ w' hC' hr' hm' hsw' hpr hdp';have hy':=(Yl.same (u:=u) ap1 hso).2 hyv;exact (Yl_of_stepX hy' (fun hL=>hC' ⟨i,o,List.mem_cons_of_mem _ hm',hi,hL⟩) ih).2
     ·rw [if_neg hE] at hr;obtain ⟨v,hyv,hc,hr'⟩:=hr;have ih:=runX_step hsel hWL hi hxL hxi hnd hsx rem (a.put y.dst v) w hCt hr' hm' hsw' hpr hdp';refine stepX_mono ?_ (stepX_form ((stepX_put ap1 hso).1 ih));rintro a' w' ⟨⟨hcw,hr2⟩,u,rfl⟩;refine ⟨hcw,?_⟩;simp only [runX,hh];rw [if_neg hd,if_neg hE];refine ⟨v,(Yl.same (u:=u) ap2 hsy).2 hyv,fun hL=>?_,hr2⟩
      have hWi:W i=false:=by
       cases hw:W i
       ·rfl
       ·exact (hLW ⟨hL,hw⟩).elim
      exact hcw hWi (hc hL)
def exX (ops:Array Oper) (x:Nat) (j i:Nat):Bool:=Nat.beq j x && (match ops[i]? with | some o=>isE o.op | none=>false)
def chkD (ops:Array Oper) (x:Nat) (π:Nat->Nat):Bool:=
 (List.range ops.size).all fun i=>
  match ops[i]? with
  | none=>true
  | some o=>!isE o.op || Nat.beq i x || ordB ops ops.size x i || (List.range ops.size).all fun j=>Nat.beq j x || !Nat.blt (π j) (π i) || !ordB ops ops.size x j
theorem any_of_x {π:Nat->Nat} {xo:Oper} {Q':Exit->Act->World->Prop} (hx:ops[x]? = some xo) (hxE:isE xo.op=true) (hxL:isL xo.op=false) (hx0:∀ j,j≠x->π x < π j) (hcO:chkO ops W π=true) (hcS:chkS ops W π (exX ops x)=true) (hD:chkD ops x π=true)
  (hQ:∀ a w,Q a w->Q' .normal a w):∀ (fuel:Nat) (listed:Array Bool) (rem:List Nat) (a:Act) (w:World),
  listed.size=ops.size->Dn ops listed->listed.getD x true=false->(∀ i,i∈rem↔i≠x/\i < ops.size/\listed.getD i true=false)->(x :: rem).Pairwise (fun a b=>π a < π b)->rem.length + 1<=fuel->(HasL ops (x :: rem)->C w) ->
   runX P ops W C Q x rem a w->wpAny P .any ops Q' fuel listed a w:=by
 have hsel:=chkO_sel hcO;have hWL:=chkO_wl hcO;have hback:=chkO_back hcO;have hcS':=hcS;have hxs:=(Array.getElem?_eq_some_iff.1 hx).1
 have hWx:∀ (j:Nat) (o:Oper),ops[j]? = some o->isL o.op=true->W x=false:=fun j o hj hL=>by
  refine hWL x j o xo (hx0 j ?_) hj hx hL;rintro rfl;rw [hx] at hj;simp only [oI] at hj;rw [<- hj,hxL] at hL;cases hL
 simp only [chkS,List.all_eq_true,List.mem_range,Bool.or_eq_true,Bool.not_eq_true'] at hcS
 have hsx:∀ (i:Nat) (o:Oper),ops[i]? = some o->i≠x->isE o.op=false->ordB ops ops.size x i=false->swapB ops W x i=true:=fun i o ho hne he hd=>by
  rcases hcS i (Array.getElem?_eq_some_iff.1 ho).1 x hxs with ((h1 | h1) | h1) | h1
  ·have:¬ Nat.blt (π x) (π i)=true:=by simp [h1]
   have:=hx0 i hne;simp at *;omega
  ·simp [exX,ho,he] at h1
  ·rw [hd] at h1;cases h1
  ·exact h1
 intro fuel
 induction fuel with
 | zero=>intro listed rem a w _ _ _ _ _ hlen;omega
 | succ fuel ih=>
  intro listed rem a w hsz hdn hxu hrem hp hlen hC hr;have hp1:=List.pairwise_cons.1 hp;have hnd:rem.Nodup:=nodup_lt hp1.2;refine ⟨fun h0=>?_,fun i hi=>?_⟩
  ·have:x∈Region.ready .any ops listed:=by
    refine mem_ready.2 ⟨hxu,_,hx,fun e he hb=>?_⟩;obtain ⟨hlt,hlt2⟩:=hback x _ hx e he hb;cases hg:listed.getD e.on false
    ·have hne:e.on≠x:=fun h=>by rw [h] at hlt;omega
     have:=hx0 e.on hne;omega
    ·rfl
   rw [h0] at this;cases this
  ·obtain ⟨hun,o,ho,hall⟩:=mem_ready.1 hi;have hi':=(Array.getElem?_eq_some_iff.1 ho).1
   have hDn':Dn ops (listed.setIfInBounds i true):=by
    intro k z hz hk e he hb;by_cases hki:k=i
    ·subst hki;rw [ho] at hz;simp only [oI] at hz;subst hz;exact getD_set_true (hall e he hb)
    ·rw [getD_set_ne true (Ne.symm hki)] at hk;exact getD_set_true (hdn k z hz hk e he hb)
   refine step_wpOp ho ?_;by_cases hix:i=x
   ·subst hix;rw [hx] at ho;simp only [oI] at ho;subst ho;have hst:=runX_now hsel hx hxE hWx rem a w hr (fun j hj o ho he hd=>hsx j o ho ((hrem j).1 hj).1 he hd);refine stepX_mono ?_ hst;rintro a' w' ⟨hcw,hr'⟩;refine any_of_run (C:=C) (exX ops i) hcO hcS' hQ fuel _ rem a' w' (by simp [hsz]) hDn' ?_ hp1.2 (by omega) ?_ ?_ hr'
    ·intro k;rw [hrem k];by_cases hki:k=i
     ·subst hki;simp [hsz,hi']
     ·rw [getD_set_ne true (Ne.symm hki)];simp [hki]
    ·intro j hj k _;have:=((hrem j).1 hj).1;simp [exX,this]
    ·rintro ⟨l,z,hl,hz,hL⟩;exact hcw (hWx l z hz hL) (hC ⟨l,z,List.mem_cons_of_mem _ hl,hz,hL⟩)
   ·have him:i∈rem:=(hrem i).2 ⟨hix,hi',hun⟩
    have hnl:∀ j,j < ops.size->listed.getD j true=false->ordB ops ops.size j i=false:=by
     intro j hj hu;cases h1:ordB ops ops.size j i
     ·rfl
     ·have h2:=ordB_listed hdn _ _ _ _ ho hall h1;have:j < listed.size:=by rw [hsz];exact hj
      simp [this] at h2 hu;rw [h2] at hu;cases hu
    have hndx:=hnl x hxs hxu
    have hsw:∀ j∈rem,j≠i->π j < π i->swapB ops W j i=true:=by
     intro j hj _ hlt;have hj':=(hrem j).1 hj;rcases hcS i hi' j hj'.2.1 with ((h1 | h1) | h1) | h1
     ·have:¬ Nat.blt (π j) (π i)=true:=by simp [h1]
      simp at this;omega
     ·simp [exX,hj'.1] at h1
     ·rw [hnl j hj'.2.1 hj'.2.2] at h1;cases h1
     ·exact h1
    have hdp:isE o.op=true->∀ j∈rem,π j < π i->ordB ops ops.size x j=false:=by
     intro he j hj hlt;simp only [chkD,List.all_eq_true,List.mem_range] at hD;have h1:=hD i hi';rw [ho] at h1;simp only [he,hndx,Bool.not_true,Bool.false_or,Bool.or_false,Bool.or_eq_true,List.all_eq_true,List.mem_range,Bool.not_eq_true',Nat.beq_eq] at h1;rcases h1 with h1 | h1
     ·exact (hix h1).elim
     ·have hj':=(hrem j).1 hj;rcases h1 j hj'.2.1 with (h2 | h2) | h2
      ·exact (hj'.1 h2).elim
      ·have:¬ Nat.blt (π j) (π i)=true:=by simp [h2]
       simp at this;omega
      ·exact h2
    have hst:=runX_step (π:=π) hsel hWL ho (fun z hz=>by rw [hx] at hz;simp only [oI] at hz;rw [<- hz];exact hxL) (Ne.symm hix) hndx (fun he=>hsx i o ho hix he hndx) rem a w hC hr him hsw hp hdp;refine stepX_mono ?_ hst;rintro a' w' ⟨hcw,hr'⟩;have hxi:=getD_set_ne (listed:=listed) true hix;refine ih (listed.setIfInBounds i true) (rem.erase i) a' w' (by simp [hsz]) hDn' (by rw [hxi];exact hxu) ?_ (List.pairwise_cons.2 ⟨fun y hy=>hp1.1 y (List.mem_of_mem_erase hy),hp1.2.sublist List.erase_sublist⟩) (by rw [List.length_erase_of_mem him];have:=List.length_pos_of_mem him;omega) ?_ hr'
    ·intro k;rw [List.Nodup.mem_erase_iff hnd];by_cases hki:k=i
     ·subst hki;simp [hsz,hi']
     ·rw [getD_set_ne true (Ne.symm hki)];simp only [ne_eq,hki,not_false_eq_true,true_and];exact hrem k
    ·rintro ⟨l,z,hl,hz,hL⟩
     have hlx:l≠x:=by
      rintro rfl;rw [hx] at hz;simp only [oI] at hz;rw [<- hz,hxL] at hL;cases hL
     have hl:l∈rem.erase i:=by
      rcases List.mem_cons.1 hl with h | h
      ·exact (hlx h).elim
      ·exact h
     have hl':=List.mem_of_mem_erase hl;have hne:l≠i:=((List.Nodup.mem_erase_iff hnd).1 hl).1;have hCw:=hC ⟨l,z,List.mem_cons_of_mem _ hl',hz,hL⟩;refine hcw ?_ hCw;rcases pw_rel hp1.2 him hl' hne.symm with h1 | h1
     ·exact hWL i l z o h1 hz ho hL
     ·have:=hsw l hl' hne h1;obtain ⟨_,_,_,h4⟩:=swapB_spec this hz ho;cases hw:W i
      ·rfl
      ·exact (h4 ⟨hL,hw⟩).elim
theorem runX_tail {π:Nat->Nat} (hsel:∀ (j:Nat) (o:Oper) cs b,ops[j]? = some o->o.op ≠ .select cs b) (hWL:∀ j i x y,π j < π i->ops[i]? = some x->ops[j]? = some y->isL x.op=true->W j=false)
  (hsx:∀ (i:Nat) (o:Oper),ops[i]? = some o->i≠x->isE o.op=false->ordB ops ops.size x i=false->swapB ops W x i=true) :
  ∀ (l:List Nat) (a:Act) (w:World),(HasL ops (x :: l)->C w)->runT P ops W C Q (x :: l) a w->(∀ i∈l,i≠x/\∃ o,ops[i]? = some o/\(ordB ops ops.size x i=true∨isE o.op=false))->(x :: l).Pairwise (fun a b=>π a < π b)->runX P ops W C Q x l a w
 | [],a,w,_,h,_,_=>by simpa only [runX] using h
 | i :: r,a,w,hC,h,hl,hp=>by
  obtain ⟨hne,o,ho,hoe⟩:=hl i (by simp);simp only [runX,ho];by_cases hd:ordB ops ops.size x i=true
  ·rw [if_pos hd];exact h
  ·rw [if_neg hd]
   have he:isE o.op=false:=by
    rcases hoe with h | h
    ·exact (hd h).elim
    ·exact h
   rw [if_neg (by simp [he])];have hd':ordB ops ops.size x i=false:=by simpa using hd
   have hp1:=List.pairwise_cons.1 hp;have hp2:=List.pairwise_cons.1 hp1.2
   have hsw:∀ j∈x :: i :: r,j≠i->π j < π i->swapB ops W j i=true:=fun j hj hji hlt=>by
    rcases List.mem_cons.1 hj with rfl | hj
    ·exact hsx i o ho hne he hd'
    ·rcases List.mem_cons.1 hj with rfl | hj
     ·exact (hji rfl).elim
     ·have:=hp2.1 j hj;omega
   have hci:isL o.op=true->C w:=fun hL=>hC ⟨i,o,by simp,ho,hL⟩;obtain ⟨v,hy⟩:=run_yields (π:=π) hsel ho he _ a w h (by simp) hsw hp;have hst:=run_step hsel hWL ho _ a w hC h (by simp) hsw hp;have hk:=(Yl_of_stepX hy hci hst).2;rw [List.erase_cons_tail (by simpa using Ne.symm hne),List.erase_cons_head] at hk;refine ⟨v,hy,hci,runX_tail hsel hWL hsx r _ w (fun hl=>?_) hk (fun j hj=>hl j (List.mem_cons_of_mem _ hj)) (List.pairwise_cons.2 ⟨fun y hy=>hp1.1 y (List.mem_cons_of_mem _ hy),hp2.2⟩)⟩;obtain ⟨l,z,hlm,hz,hL⟩:=hl;refine hC ⟨l,z,?_,hz,hL⟩;rcases List.mem_cons.1 hlm with h | h
   ·simp [h]
   ·simp [h]
end
theorem selL_all {ops:Array Oper}:∀ {l:List Nat},(∀ i∈l,i < ops.size)->(selL ops.toList l).map (·.1)=l
 | [],_=>rfl
 | i :: r,h=>by
  have hi:ops.toList[i]? = some (ops[i]'(h i (by simp))):=by
   rw [gE (by simpa using h i (by simp))];simp
  unfold selL;rw [hi];simp only [List.map_cons];rw [selL_all fun j hj=>h j (List.mem_cons_of_mem _ hj)]
def goX (X:Ctx) (D:Dr) (x:Nat) (tail:List Nat):List Nat->Bool->List (Nat × Sl)->St->Prop
 | [],c,s0,st=>
  match c with
  | true=>goD X D 3000 true (selL D.ops.toList (x :: tail)) s0 st
  | false=>False
 | i :: r,c,s0,st=>
  match D.ops.toList[i]? with
  | none=>False
  | some o=>
   match isE o.op with
   | true=>goD X D 3000 c (selL D.ops.toList (x :: i :: (r ++ tail))) s0 st/\goD X ⟨D.ops,D.W,D.k,D.st0,some (goX X D x tail r)⟩ 3000 c [(i,o)] s0 st
   | false=>goD X ⟨D.ops,D.W,D.k,D.st0,some (goX X D x tail r)⟩ 3000 c [(i,o)] s0 st
def chkX (ops:Array Oper) (W:Nat->Bool) (x:Nat) (pre tail:List Nat):Bool:=
 chkL ops (x :: (pre ++ tail)) && chkO ops W (plc (x :: (pre ++ tail))) && chkS ops W (plc (x :: (pre ++ tail))) (exX ops x) && chkD ops x (plc (x :: (pre ++ tail))) &&
  (match ops[x]? with | some o=>isE o.op && !isL o.op | none=>false) && pre.all (fun i=>!ordB ops ops.size x i) && tail.all (fun i=>match ops[i]? with | some o=>ordB ops ops.size x i || !isE o.op | none=>false)
section
variable {X:Ctx} {D:Dw} {x:Nat} {tail:List Nat} {π:Nat->Nat}
theorem goX_sound (hD:EnvM D.E0 D.d.st0.bx D.wr) (hsel:∀ (j:Nat) (o:Oper) cs b,D.d.ops[j]? = some o->o.op ≠ .select cs b) (hWL:∀ j i x y,π j < π i->D.d.ops[i]? = some x->D.d.ops[j]? = some y->isL x.op=true->D.d.W j=false)
  (hsx:∀ (i:Nat) (o:Oper),D.d.ops[i]? = some o->i≠x->isE o.op=false->ordB D.d.ops D.d.ops.size x i=false->swapB D.d.ops D.d.W x i=true)
  (htl:∀ i∈tail,i≠x/\∃ o,D.d.ops[i]? = some o/\(ordB D.d.ops D.d.ops.size x i=true∨isE o.op=false)) (hxs:x < D.d.ops.size):∀ (pre:List Nat),(∀ i∈pre,i < D.d.ops.size/\ordB D.d.ops D.d.ops.size x i=false)->(x :: (pre ++ tail)).Pairwise (fun a b=>π a < π b) ->
  ∀ c s0 st,goX X D.d x tail pre c s0 st->∀ E a w,RelD X D c E s0 st a w->runX X.P D.d.ops D.d.W D.C (D.Q X) x (pre ++ tail) a w
 | [],_,hp,c,s0,st,hg,E,a,w,h=>by
  have htl2:∀ i∈x :: tail,i < D.d.ops.size:=fun i hi=>by
   rcases List.mem_cons.1 hi with rfl | hi
   ·exact hxs
   ·obtain ⟨_,o,ho,_⟩:=htl i hi;exact (Array.getElem?_eq_some_iff.1 ho).1
  simp only [goX] at hg;split at hg
  ·have h1:=goD_sound hD 3000 true _ _ _ hg (fun p hp=>by simpa using selL_mem hp) E a w h;rw [selL_all htl2] at h1;exact runX_tail hsel hWL hsx tail a w (fun _=>h.cc rfl) h1 htl hp
  ·exact hg.elim
 | i :: r,hpre,hp,c,s0,st,hg,E,a,w,h=>by
  obtain ⟨his,hnd⟩:=hpre i (by simp);have ho:D.d.ops[i]? = some D.d.ops[i]:=Array.getElem?_eq_getElem his;have hol:D.d.ops.toList[i]? = some D.d.ops[i]:=by simpa using ho
  have hp1:=List.pairwise_cons.1 hp;have hp2:=List.pairwise_cons.1 hp1.2
  have hall:∀ j∈x :: i :: (r ++ tail),j < D.d.ops.size:=fun j hj=>by
   rcases List.mem_cons.1 hj with rfl | hj
   ·exact hxs
   ·rcases List.mem_cons.1 hj with rfl | hj
    ·exact his
    ·rcases List.mem_append.1 hj with hj | hj
     ·exact (hpre j (by simp [hj])).1
     ·obtain ⟨_,o,ho,_⟩:=htl j hj;exact (Array.getElem?_eq_some_iff.1 ho).1
  have ih:=goX_sound hD hsel hWL hsx htl hxs r (fun j hj=>hpre j (by simp [hj])) (List.pairwise_cons.2 ⟨fun y hy=>hp1.1 y (List.mem_cons_of_mem _ hy),hp2.2⟩);generalize D.d.ops[i]=o at ho hol
  have hone:∀ c s0 st,goD X ⟨D.d.ops,D.d.W,D.d.k,D.d.st0,some (goX X D.d x tail r)⟩ 3000 c [(i,o)] s0 st->RelD X D c E s0 st a w->runT X.P D.d.ops D.d.W D.C (fun a w=>runX X.P D.d.ops D.d.W D.C (D.Q X) x (r ++ tail) a w) [i] a w:=fun c s0 st hg h=>by
   have h1:=goD_sound (D:=⟨⟨D.d.ops,D.d.W,D.d.k,D.d.st0,some (goX X D.d x tail r)⟩,D.E0,D.wr⟩) hD 3000 c [(i,o)] s0 st hg (fun p hp=>by
    rw [List.mem_singleton] at hp;rw [hp]
    exact ho) E a w ⟨h.rel,h.x,h.β,h.t0,h.cc⟩
   refine runT_mono ?_ h1;rintro a w ⟨c,E,s0,st,h2,h3⟩;exact ih c s0 st h3 E a w ⟨h2.rel,h2.x,h2.β,h2.t0,h2.cc⟩
  simp only [goX,hol] at hg;simp only [List.cons_append,runX,ho];rw [if_neg (by simp [hnd])];split at hg
  ·rename_i hE;obtain ⟨h1,h2⟩:=hg;rw [if_pos hE];have h3:=goD_sound hD 3000 c _ _ _ h1 (fun p hp=>by simpa using selL_mem hp) E a w h;rw [selL_all hall] at h3;refine ⟨h3,?_⟩;have h4:=hone c s0 st h2 h;simp only [runT,ho,hE,if_true] at h4;exact h4
  ·rename_i hE;rw [if_neg (by simp [hE])];have h4:=hone c s0 st hg h;simp only [runT,ho,hE,Bool.false_eq_true,if_false] at h4;exact h4
theorem plc_zero (x:Nat) (l:List Nat):plc (x :: l) x=0:=by simp [plc]
theorem plc_pos {x j:Nat} (l:List Nat) (h:j≠x):0 < plc (x :: l) j:=by
 have:Nat.beq x j=false:=by
  cases hb:Nat.beq x j
  ·rfl
  ·exact (h (Nat.eq_of_beq_eq_true hb).symm).elim
 simp [plc,this]
theorem endS {s S:St} (h:SameSt s S:=by refine ⟨rfl,rfl,?_⟩;repeat' (first | exact trivial | refine ⟨rfl,?_⟩)):s=S∨SameSt s S:=.inr h
theorem drawG_x {id:Nat} {ops:Array Oper} {k:List It} {st:St} (W:Nat->Bool) (x:Nat) (pre tail:List Nat) (hm:X.P.follows .mixedOrders=true) (hc:chkX ops W x pre tail=true) (S:St)
  (h:goX X ⟨ops,W,[.rnd fun s=>s=S∨SameSt s S],st,none⟩ x tail pre true st.sl st) (hk:go X 4000 k S):DrawG X id ops k st:=by
 intro E a w hr;have hr':=drew_rel hr;simp only [chkX,Bool.and_eq_true] at hc;obtain ⟨⟨⟨⟨⟨⟨hL,hO⟩,hS⟩,hDD⟩,hX⟩,hpre⟩,htail⟩:=hc
 cases hxo:ops[x]? with
 | none=>rw [hxo] at hX;cases hX
 | some xo=>
 rw [hxo] at hX;simp only [Bool.and_eq_true,Bool.not_eq_true'] at hX;obtain ⟨hxE,hxL⟩:=hX;simp only [chkL,Bool.and_eq_true,List.all_eq_true,Nat.blt_eq,Nat.ble_eq,beq_iff_eq,List.mem_range] at hL;obtain ⟨⟨⟨⟨_,h1b⟩,h1c⟩,hlen⟩,h1d⟩:=hL;have hp:=pwB_spec h1d;have hp1:=List.pairwise_cons.1 hp;have hsel:=chkO_sel hO;have hWL:=chkO_wl hO
 have hx0:∀ j,j≠x->plc (x :: (pre ++ tail)) x < plc (x :: (pre ++ tail)) j:=fun j hj=>by
  rw [plc_zero];exact plc_pos _ hj
 have hxs:=(Array.getElem?_eq_some_iff.1 hxo).1;have hS':=hS;simp only [chkS,List.all_eq_true,List.mem_range,Bool.or_eq_true,Bool.not_eq_true'] at hS'
 have hsx:∀ (i:Nat) (o:Oper),ops[i]? = some o->i≠x->isE o.op=false->ordB ops ops.size x i=false->swapB ops W x i=true:=fun i o ho hne he hd=>by
  rcases hS' i (Array.getElem?_eq_some_iff.1 ho).1 x hxs with ((h1 | h1) | h1) | h1
  ·have:¬ Nat.blt (plc (x :: (pre ++ tail)) x) (plc (x :: (pre ++ tail)) i)=true:=by simp [h1]
   have:=hx0 i hne;simp at *;omega
  ·simp [exX,ho,he] at h1
  ·rw [hd] at h1;cases h1
  ·exact h1
 have hne:∀ i∈pre ++ tail,i≠x:=fun i hi e=>by
  have:=hp1.1 i hi;rw [e] at this;omega
 have hs:=relD_start hr' (ops:=ops) (W:=W) (k:=[.rnd fun s=>s=S∨SameSt s S])
 have hrun:=goX_sound (D:=⟨⟨ops,W,[.rnd fun s=>s=S∨SameSt s S],st,none⟩,E,w.drew⟩) hr'.env.em hsel hWL hsx (fun i hi=>by
  refine ⟨hne i (List.mem_append_right _ hi),?_⟩;have:=List.all_eq_true.1 htail i hi
  cases ho:ops[i]? with
  | none=>rw [ho] at this;cases this
  | some o=>
   rw [ho] at this;simp only [Bool.or_eq_true,Bool.not_eq_true'] at this;exact ⟨o,rfl,this⟩) hxs pre (fun i hi=>by
  refine ⟨h1c i (by simp [hi]),?_⟩;have:=List.all_eq_true.1 hpre i hi
  simpa using this) hp true st.sl st h E a w.drew hs
 refine wp_region_any hm ?_;refine any_of_x (C:=CC E st.bx w.drew) (Q:=kq X [.rnd fun s=>s=S∨SameSt s S] .normal) (π:=plc (x :: (pre ++ tail))) hxo hxE hxL hx0 hO hS hDD (fun a w hq=>?_) ops.size (Array.replicate ops.size false) (pre ++ tail) a _ (by simp) ?_ (by simp [hxs]) ?_ hp ?_ (fun _=>hs.cc rfl) hrun
 ·obtain ⟨st1,E1,hrel,hJ⟩:=hq;rcases hJ with rfl | hJ
  ·exact go_sound 4000 _ _ hk E1 a w hrel
  ·exact go_sound 4000 _ _ hk E1 a w (same_rel hrel hJ)
 ·intro i o ho hl;have:i < ops.size:=(Array.getElem?_eq_some_iff.1 ho).1;simp [this] at hl
 ·intro i;constructor
  ·intro hi;have:=h1c i (by simp [List.mem_append.1 hi]);exact ⟨hne i hi,this,by simp [this]⟩
  ·rintro ⟨h1,h2,_⟩;have:=h1b i h2;have h4:i=x∨i∈pre ++ tail:=by simpa using this
   exact h4.resolve_left h1
 ·simp only [List.length_cons] at hlen;exact hlen
end
end Dv
end Go.Proofs.YtadbccicdbopcaaGreat
set_option maxRecDepth 100000
namespace Go.Proofs.YtadbccicdbopcaaGreat
open Go Go.RowKit Dv Tryz
abbrev ed20St (d:Nd) (s:Stp) (e:Nat):St:=⟨[(2,⟨[],.loc 0 0⟩),(3,⟨[],.loc 1 0⟩),(5,⟨[],.v (.int .i64 e)⟩)],[dNd d,dStp s],[]⟩
theorem edge20_spec (d:Nd) (s:Stp) (hel:d.edges.length<=1099511627776) (hs:s.s.size<=4611686018427387904):EvP Tryz.prog 251 [.agg (dNd d),.agg (dStp s)] (.v (.int .i64 (oz (edgeI d s)))):=by
 have hr:=right09_spec [s] (by simpa using hs);rw [rightP_one] at hr;have hE:edgeI d s=if rightS s=true then firstN (edgeP d s) d.edges.length else none:=rfl
 have hP:∀ (e:Nat) x,d.edges[e]? = some x->edgeP d s e=edgeB d s x:=fun e x h=>by unfold edgeP;rw [h]
 have hB:∀ x:Ed,edgeB d s x=((decide (s.k=1) && decide (d.kind=7) && (decide (x.name=s.s) && !x.bare)) || (decide (s.k=5) && decide (d.kind=8) && (decide (x.name=s.s) && !x.bare)) ||
  ((decide (s.k=2) || decide (s.k=3)) && decide (d.kind=5) && decide (s.n < d.most)) || (decide (s.k=4) && decide (d.kind=6))):=fun _=>rfl
 generalize edgeI d s=I at hE ⊢;generalize rightS s=R at hr hE;generalize edgeP d s=pE at hE hP;generalize edgeB d s=bE at hP hB;obtain ⟨kind,at',lo,hi,most,names,es⟩:=d;obtain ⟨k,n,t⟩:=s;have hdl:=dEds_len es;simp only at hE hP hB hel;refine ev_go (P:=Tryz.prog) tt tt_ok 5000 93 [.tmp 4] Tryz.func251 rfl Tryz.ntmps251 rfl (nL rfl) (fun E9 w9 hn9 hm9=>?_);refine call_p en345 (hr) ax rfl ?_
 cases R with
 | false=>
  rw [if_neg (by simp)] at hE;subst hE;exact (rfl:_=_)
 | true=>
 rw [if_pos rfl] at hE;refine loop_i (fun j st=>∃ e:Nat,st=ed20St ⟨kind,at',lo,hi,most,names,es⟩ ⟨k,n,t⟩ e/\e<=es.length/\(∀ c,c < e->pE c=false)/\j=es.length - e) es.length (ed20St ⟨kind,at',lo,hi,most,names,es⟩ ⟨k,n,t⟩ 0) (weak_mk ⟨_,rfl⟩ wA rfl rfl rfl wB) ⟨0,rfl,by omega,fun _ h=>by omega,by omega⟩ ?_;rintro j st ⟨e,rfl,he,hno,rfl⟩;refine br (fun hL=>?_) (fun hL=>?_)
 ·have hlt:e < es.length:=by simpa [hdl] using hL
  obtain ⟨x,hx⟩:∃ x,es[e]? = some x:=⟨_,gE hlt⟩;have hPe:=hP e x hx;rw [hB] at hPe;refine drawG_i (fun _=>false) mo (by decide +kernel) ?_;refine ⟨_,⟨by omega,dEds_get hx⟩,?_⟩;refine br (fun g=>?_) (fun g=>?_)
  ·have g:decide (x.name=t)=true:=by cases h:decide (x.name=t)<;>simp_all
   refine ⟨_,⟨by omega,dEds_get hx⟩,?_⟩;refine br (fun c=>?_) (fun c=>?_)
   ·have hc:pE e=true:=by
     rw [hPe,g];simpa only [pickB_and,pickB_or,Bool.false_and,Bool.and_false,Bool.true_and,Bool.false_or,Bool.or_false] using c
    rw [firstN_some hlt hc hno] at hE;subst hE;exact (rfl:_=_)
   ·have hc:pE e=false:=by
     rw [hPe,g];simpa only [pickB_and,pickB_or,Bool.false_and,Bool.and_false,Bool.true_and,Bool.false_or,Bool.or_false] using c
    exact ⟨ed20St ⟨kind,at',lo,hi,most,names,es⟩ ⟨k,n,t⟩ (e + 1),(weak_mk ⟨_,rfl⟩ wA rfl rfl rfl (wNB hlt)),es.length - (e + 1),by omega,e + 1,rfl,by omega,fun c hc2=>by
     rcases Nat.lt_succ_iff_lt_or_eq.1 hc2 with h | h
     ·exact hno c h
     ·rw [h];exact hc,rfl⟩
  ·have g:decide (x.name=t)=false:=by cases h:decide (x.name=t)<;>simp_all
   refine br (fun c=>?_) (fun c=>?_)
   ·have hc:pE e=true:=by
     rw [hPe,g];simpa only [pickB_and,pickB_or,Bool.false_and,Bool.and_false,Bool.true_and,Bool.false_or,Bool.or_false] using c
    rw [firstN_some hlt hc hno] at hE;subst hE;exact (rfl:_=_)
   ·have hc:pE e=false:=by
     rw [hPe,g];simpa only [pickB_and,pickB_or,Bool.false_and,Bool.and_false,Bool.true_and,Bool.false_or,Bool.or_false] using c
    exact ⟨ed20St ⟨kind,at',lo,hi,most,names,es⟩ ⟨k,n,t⟩ (e + 1),(weak_mk ⟨_,rfl⟩ wA rfl rfl rfl (wNB hlt)),es.length - (e + 1),by omega,e + 1,rfl,by omega,fun c hc2=>by
     rcases Nat.lt_succ_iff_lt_or_eq.1 hc2 with h | h
     ·exact hno c h
     ·rw [h];exact hc,rfl⟩
 ·have hge:e=es.length:=by have:=hL;simp [hdl] at this;omega
  subst hge;rw [firstN_none hno] at hE;subst hE;exact (rfl:_=_)
theorem sl_tl (s:Stp) (p:List Stp):DV.sl 3 (((dStps (s :: p)).take (((dStps (s :: p)).length:Nat):Int).toNat).drop (1:Int).toNat) none = .sl 3 (dStps p) none:=by
 rw [Int.toNat_natCast,List.take_length];all_goals rfl
abbrev wL (lv:List Wd) (f:Nat->Nat->Bool) (ND:List Nd) (z:Int):List DV:=[.sl 2 (dWds lv) none,.sl 1 (dMat (matB lv.length f)) none,.sl 7 (dNds ND) none,.v (.int .i64 z)]
def walkD (o:Option (Nat × Nat)):DV:=match o with
 | some (j,b)=>.tup [.v (.int .i64 (j:Nat)),.v (.int .i64 (b:Nat))]
 | none=>.tup [.v (.int .i64 (-1)),.v (.int .i64 (-1))]
theorem walk20_spec (lv:List Wd) (f:Nat->Nat->Bool) (ND:List Nd) (z:Int) (hL:LatOK f lv.length) (hn:lv.length<=32) (hok:∀ n∈ND,NdOK lv.length ND.length n) (hsz:∀ n∈ND,n.edges.length<=1099511627776) :
  ∀ (p:List Stp),p.length<=1099511627776->(∀ s∈p,s.s.size<=4611686018427387904)->∀ (i a:Nat),i < ND.length->a < lv.length ->
   EvP Tryz.prog 145 [.agg (wL lv f ND z),.v (.int .i64 i),.v (.int .i64 a),.sl 3 (dStps p) none] (walkD (walkV ND f lv.length p i a))
 | [],_,_,i,a,hi,ha=>by
  have hW:wL lv f ND z=wL lv f ND z:=rfl;rw [walkV];refine ev_go (P:=Tryz.prog) tt tt_ok 5000 51 [.tmp 8,.tmp 9] Tryz.func145 rfl Tryz.ntmps145 rfl (nL rfl) (fun E9 w9 hn9 hm9=>?_);exact ⟨_,ax,rfl⟩
 | s :: p,hp,hs,i,a,hi,ha=>by
  obtain ⟨d,hd⟩:∃ d,ND[i]? = some d:=⟨_,gE hi⟩;have hm:=mG hd;have hN:=hok d hm;have hed:=edge20_spec d s (hsz d hm) (hs s (by simp));have hes:=fun k=>@edgeI_some d s k;have hnum:=fun e (he:e∈d.edges)=>edge_nums hN he;have hbr:=fun e (he:e∈d.edges) h=>@edgeB_bare _ _ d hN s e he h;have htail:=sl_tl s p;have hds:=dStps_get (l:=s :: p) (e:=0) rfl;have hdsl:=dStps_len (s :: p);rw [List.length_cons] at hdsl hp;have hNl:=dNds_len ND;have ih:=fun i a hi ha=>walk20_spec lv f ND z hL hn hok hsz p (by omega) (fun s hs'=>hs s (by simp [hs'])) i a hi ha
  have hWV:walkV ND f lv.length (s :: p) i a=match edgeI d s with
   | none=>none
   | some k=>match d.edges[k]? with
    | none=>none
    | some e=>walkV ND f lv.length p e.to.toNat (jnF f lv.length a e.label.toNat):=by rw [walkV,hd];all_goals rfl
  rw [hWV];clear hWV;generalize edgeI d s=o at hed hes ⊢
  cases o with
  | none=>
   obtain ⟨kind,at',lo,hi',most,names,es⟩:=d;obtain ⟨sk,sn,ss⟩:=s;refine ev_go (P:=Tryz.prog) tt tt_ok 5000 51 [.tmp 8,.tmp 9] Tryz.func145 rfl Tryz.ntmps145 rfl (nL rfl) (fun E9 w9 hn9 hm9=>?_);refine drawG_i (fun _=>false) mo (by decide +kernel) ?_;refine ⟨_,⟨by omega,dNds_get hd⟩,_,⟨by omega,hds⟩,?_⟩;refine callD_p en251 (hed) ax rfl ?_;exact ⟨_,ax,rfl⟩
  | some k=>
   obtain ⟨e,he,hB,_⟩:=hes k rfl;have hme:=mG he;obtain ⟨h0,⟨h2,h2'⟩,_⟩:=hnum e hme;obtain ⟨h1,h1'⟩:=h0 (hbr e hme hB);clear hnum hbr hes h0;obtain ⟨en,eb,ea,et,elb,ew,eck,ecn,ese,eca⟩:=e;simp only at h1 h2 h1' h2';obtain ⟨lb,rfl⟩:∃ n:Nat,elb=n:=⟨_,h2⟩;obtain ⟨tn,rfl⟩:∃ n:Nat,et=n:=⟨_,h1⟩;simp only [Int.toNat_natCast] at h1' h2';have hj:=join11_spec lv.length f (by omega) a lb ha h2';rw [joinR_some hL ha h2'] at hj;have hw:=ih tn (jnF f lv.length a lb) h1' (jnF_lt hL ha h2');simp only [he,Int.toNat_natCast];generalize walkV ND f lv.length p tn (jnF f lv.length a lb)=R at hw ⊢;obtain ⟨kind,at',lo,hi',most,names,es⟩:=d;obtain ⟨sk,sn,ss⟩:=s;have hel:=dEds_len es;simp only at he;refine ev_go (P:=Tryz.prog) tt tt_ok 5000 51 [.tmp 8,.tmp 9] Tryz.func145 rfl Tryz.ntmps145 rfl (nL rfl) (fun E9 w9 hn9 hm9=>?_);refine drawG_i (fun _=>false) mo (by decide +kernel) ?_;refine ⟨_,⟨by omega,dNds_get hd⟩,_,⟨by omega,hds⟩,?_⟩;refine callD_p en251 (hed) ax rfl ?_;refine ⟨_,⟨by omega,dNds_get hd⟩,?_⟩;refine ⟨_,⟨by simp [oz],by simpa [oz] using dEds_get he⟩,?_⟩;refine drawG_i (fun _=>false) mo (by decide +kernel) ?_;refine callD_p en252 (hj) ax rfl ?_;refine ⟨⟨by omega,by omega,by omega⟩,?_⟩;refine callD_p en145 (hw) (by repeat' (first | exact rfl | exact trivial | exact Or.inr (Or.inl ⟨_,rfl⟩) | exact Or.inr ⟨_,rfl⟩ | exact Or.inl ⟨rfl,rfl⟩ | exact Or.inl rfl | refine Or.inr ⟨_,_,rfl,Nat.zero_le _,rfl,?_⟩ | refine ⟨_,_,rfl,?_,?_⟩ | refine ⟨_,rfl,?_⟩ | exact Or.inr (Or.inl ⟨_,htail⟩)| refine Or.inr (Or.inr (Or.inr ⟨_,_,rfl,?_⟩)) | exact Or.inl rfl | refine Or.inr ?_)) rfl ?_
   cases R with
   | none=>exact ⟨_,ax,rfl⟩
   | some r=>exact ⟨_,ax,rfl⟩
theorem efits_spec (d:Nd) (e:Ed) (s:Stp):EvP Tryz.prog 344 [.agg (dNd d),.agg (dEd e),.agg (dStp s)] (.v (.bool (fitE d s e))):=by
 obtain ⟨kind,at',lo,hi,most,names,es⟩:=d;obtain ⟨en,eb,ea,et,elb,ew,eck,ecn,ese,eca⟩:=e;obtain ⟨k,n,t⟩:=s
 have hF:fitE ⟨kind,at',lo,hi,most,names,es⟩ ⟨k,n,t⟩ ⟨en,eb,ea,et,elb,ew,eck,ecn,ese,eca⟩=if k=1 then decide (kind=7) && decide (en=t)
  else if k=5 then decide (kind=8) && decide (en=t) && !eb
  else if k=2 then decide (kind=5) && decide (n < most)
  else if k=3 then decide (kind=5) && decide (0 < most)
  else decide (kind=6):=rfl
 generalize fitE ⟨kind,at',lo,hi,most,names,es⟩ ⟨k,n,t⟩ ⟨en,eb,ea,et,elb,ew,eck,ecn,ese,eca⟩=F at hF ⊢;refine ev_go (P:=Tryz.prog) tt tt_ok 5000 63 [.tmp 6] Tryz.func344 rfl Tryz.ntmps344 rfl (nL rfl) (fun E9 w9 hn9 hm9=>?_);refine br (fun c=>?_) (fun c=>?_)
 ·have c:k=1:=by simpa using c
  rw [if_pos c] at hF;refine (congrArg (fun b=>DV.v (.bool b)) ?_:_=_);rw [hF];simp only [pickB_and]
 have c1:¬ k=1:=by simpa using c
 rw [if_neg c1] at hF;refine br (fun c=>?_) (fun c=>?_)
 ·have c:k=5:=by simpa using c
  rw [if_pos c] at hF;refine (congrArg (fun b=>DV.v (.bool b)) ?_:_=_);rw [hF];simp only [pickB_and]
 have c5:¬ k=5:=by simpa using c
 rw [if_neg c5] at hF;refine br (fun c=>?_) (fun c=>?_)
 ·have c:k=2:=by simpa using c
  rw [if_pos c] at hF;refine (congrArg (fun b=>DV.v (.bool b)) ?_:_=_);rw [hF];simp only [pickB_and]
 have c2:¬ k=2:=by simpa using c
 rw [if_neg c2] at hF;refine br (fun c=>?_) (fun c=>?_)
 ·have c:k=3:=by simpa using c
  rw [if_pos c] at hF;refine (congrArg (fun b=>DV.v (.bool b)) ?_:_=_);rw [hF];simp only [pickB_and]
 have c3:¬ k=3:=by simpa using c
 rw [if_neg c3] at hF;refine (congrArg (fun b=>DV.v (.bool b)) ?_:_=_);rw [hF]
def estW (ND:List Nd) (f:Nat->Nat->Bool) (n:Nat) (s:Stp) (i a:Nat):Option (Nat × Nat):=match ND[i]? with
 | none=>none
 | some d=>match edgeI d s with
  | none=>none
  | some k=>match d.edges[k]? with
   | none=>none
   | some e=>some (e.to.toNat,jnF f n a e.label.toNat)
theorem walkV_drop (ND:List Nd) (f:Nat->Nat->Bool) (n:Nat) (p:List Stp) (e i a:Nat):walkV ND f n (p.drop e) i a=match p[e]? with
  | none=>some (i,a)
  | some s=>match estW ND f n s i a with
   | none=>none
   | some (j,b)=>walkV ND f n (p.drop (e + 1)) j b:=by
 cases hs:p[e]? with
 | none=>rw [List.drop_eq_nil_of_le (List.getElem?_eq_none_iff.1 hs)];all_goals rfl
 | some s=>
  obtain ⟨h1,h2⟩:=List.getElem?_eq_some_iff.1 hs;rw [List.drop_eq_getElem_cons h1,h2,walkV];simp only [estW]
  cases hd:ND[i]? with
  | none=>rfl
  | some d=>
   simp only
   cases hk:edgeI d s with
   | none=>rfl
   | some k=>
    simp only
    cases he:d.edges[k]? with
    | none=>rfl
    | some x=>rfl
theorem estW_ok {f:Nat->Nat->Bool} {L:Nat} (hL:LatOK f L) {ND:List Nd} (hok:∀ n∈ND,NdOK L ND.length n) {s:Stp} {i a j b:Nat} (hi:i < ND.length) (ha:a < L) (h:estW ND f L s i a=some (j,b)):j < ND.length/\b < L:=by
 have hw:=walkV_drop ND f L [s] 0 i a;simp only [List.getElem?_cons_zero,h] at hw;exact walkV_ok hL hok [s] i a hi ha hw
def stepD (o:Option (Nat × Nat)):DV:=match o with
 | some (j,b)=>.tup [.agg [.v (.int .i64 (j:Nat)),.v (.int .i64 (b:Nat))],.v (.bool true)]
 | none=>.tup [.agg [.v (.int .i64 0),.v (.int .i64 0)],.v (.bool false)]
abbrev estSt (PC:List DV) (i a:Nat) (s:Stp) (d:Nd) (e:Nat):St:=
 ⟨[(0,⟨[],.pt PC 0⟩),(4,⟨[],.loc 0 0⟩),(5,⟨[],.loc 1 0⟩),(6,⟨[],.loc 2 0⟩),(8,⟨[],.loc 3 0⟩),(20,⟨[],.sl 10 (dEds d.edges) none⟩),(21,⟨[],.v (.int .i64 (dEds d.edges).length)⟩),(22,⟨[],.v (.int .i64 e)⟩)],
  [[.v (.int .i64 i),.v (.int .i64 a)],dStp s,[.v (.int .i64 0),.v (.int .i64 0)],dNd d],[]⟩
theorem estep_spec {S:Sch} {ND:List Nd} {PC:List DV} (hP:PlanR S ND PC) (s:Stp) (hr:rightS s=true) (i a:Nat) (hi:i < ND.length) (ha:a < S.levels.length) :
  EvP Tryz.prog 249 [.pt PC 0,.agg [.v (.int .i64 i),.v (.int .i64 a)],.agg (dStp s)] (stepD (estW ND (leqS S) S.levels.length s i a)):=by
 obtain ⟨LC,hlat,hLR⟩:=hP.latR;obtain ⟨d,hd⟩:∃ d,ND[i]? = some d:=⟨_,gE hi⟩;have hN:=hP.ok d (mG hd);have hnode:=hP.node i d hd
 have hel:d.edges.length<=1099511627776:=by
  have:=resNds_sz (S:=S) (n:=d) (by rw [<- hP.nds];exact mG hd) hP.wt;exact this.2
 have hjn:=fun b hb=>hLR.join a b ha hb
 have hW:estW ND (leqS S) S.levels.length s i a=match firstN (edgeP d s) d.edges.length with
  | none=>none
  | some k=>match d.edges[k]? with
   | none=>none
   | some e=>some (e.to.toNat,jnF (leqS S) S.levels.length a e.label.toNat):=by
  unfold estW;simp only [hd,edgeI,if_pos hr]
 have hPe:∀ (e:Nat) x,d.edges[e]? = some x->edgeP d s e=fitE d s x:=fun e x h=>by
  rw [fitE_eq hN hr (mG h)];unfold edgeP;rw [h]
 have hfs:=fun x=>efits_spec d x s;have hnum:=fun (e:Ed) (he:e∈d.edges) (h:edgeB d s e=true)=>And.intro ((edge_nums hN he).1 (edgeB_bare hN he h)) (edge_nums hN he).2.1;have hfe:=fun x hx=>fitE_eq hN hr (e:=x) hx;generalize estW ND (leqS S) S.levels.length s i a=R at hW ⊢;generalize edgeP d s=pE at hW hPe;generalize jnF (leqS S) S.levels.length a=jn at hW hjn;obtain ⟨kind,at',lo,hi',most,names,es⟩:=d;obtain ⟨k,n,t⟩:=s;have hdl:=dEds_len es;simp only at hW hPe hel;refine ev_go (P:=Tryz.prog) tt tt_ok 5000 42 [.cell 6 333,.tmp 7] Tryz.func249 rfl Tryz.ntmps249 rfl (nL rfl) (fun E9 w9 hn9 hm9=>?_);refine call_p en100 (hnode) ax rfl ?_;refine loop_i (fun j st=>∃ e:Nat,st=estSt PC i a ⟨k,n,t⟩ ⟨kind,at',lo,hi',most,names,es⟩ e/\e<=es.length/\(∀ c,c < e->pE c=false)/\j=es.length - e) es.length (estSt PC i a ⟨k,n,t⟩ ⟨kind,at',lo,hi',most,names,es⟩ 0) (weak_mk ⟨_,rfl⟩ wA rfl rfl rfl wB) ⟨0,rfl,by omega,fun _ h=>by omega,by omega⟩ ?_;rintro j st ⟨e,rfl,he,hno,rfl⟩;refine br (fun hL=>?_) (fun hL=>?_)
 ·have hlt:e < es.length:=by simpa [hdl] using hL
  obtain ⟨x,hx⟩:∃ x,es[e]? = some x:=⟨_,gE hlt⟩;have hPx:=hPe e x hx;have hfx:=hfs x;have hmx:=mG hx;have hnx:=hnum x hmx;have hfex:=hfe x hmx
  cases hv:fitE ⟨kind,at',lo,hi',most,names,es⟩ ⟨k,n,t⟩ x with
  | true=>
   rw [hv] at hPx hfx hfex;obtain ⟨⟨h1,_⟩,h2,h3⟩:=hnx hfex.symm;rw [firstN_some hlt hPx hno] at hW;simp only [hx] at hW;clear hnum hfe hnx hfex hfs;obtain ⟨en,eb,ea,et,elb,ew,eck,ecn,ese,eca⟩:=x;simp only at h1 h2 h3;obtain ⟨lb,rfl⟩:∃ n:Nat,elb=n:=⟨_,h2⟩;obtain ⟨tn,rfl⟩:∃ n:Nat,et=n:=⟨_,h1⟩;simp only [Int.toNat_natCast] at h3 hW;have hj:=hjn lb h3;subst hW;refine ⟨_,⟨by omega,dEds_get hx⟩,?_⟩;refine call_p en344 (hfx) ax rfl ?_;refine drawG_s mo (by decide +kernel) ?_;refine callD_p en53 (hlat) ax rfl ?_;refine callD_p en143 (hj) ax rfl ?_;exact ⟨_,ax,rfl⟩
  | false=>
   rw [hv] at hPx hfx;obtain ⟨en,eb,ea,et,elb,ew,eck,ecn,ese,eca⟩:=x;refine ⟨_,⟨by omega,dEds_get hx⟩,?_⟩;refine call_p en344 (hfx) ax rfl ?_
   exact ⟨estSt PC i a ⟨k,n,t⟩ ⟨kind,at',lo,hi',most,names,es⟩ (e + 1),(weak_b 4 rfl (wNA hlt) rfl rfl rfl (wNB hlt)),es.length - (e + 1),by omega,e + 1,rfl,by omega,fun c hc=>by
    rcases Nat.lt_succ_iff_lt_or_eq.1 hc with h | h
    ·exact hno c h
    ·rw [h];exact hPx,rfl⟩
 ·have hge:e=es.length:=by have:=hL;simp [hdl] at this;omega
  subst hge;rw [firstN_none hno] at hW;simp only at hW;subst hW;exact ⟨_,ax,rfl⟩
def walkT (o:Option (Nat × Nat)):DV:=match o with
 | some (j,b)=>.tup [.v (.int .i64 (j:Nat)),.v (.int .i64 (b:Nat)),.v (.bool true)]
 | none=>.tup [.v (.int .i64 (-1)),.v (.int .i64 (-1)),.v (.bool false)]
abbrev ewkSt (PC:List DV) (p:List Stp) (i a e:Nat):St:=
 ⟨[(0,⟨[],.pt PC 0⟩),(7,⟨[],.loc 0 0⟩),(18,⟨[],.sl 3 (dStps p) none⟩),(19,⟨[],.v (.int .i64 (dStps p).length)⟩),(20,⟨[],.v (.int .i64 e)⟩)],[[.v (.int .i64 i),.v (.int .i64 a)]],[]⟩
theorem ewalk_spec {S:Sch} {ND:List Nd} {PC:List DV} (hP:PlanR S ND PC) (p:List Stp) (hp:p.length<=1099511627776) (hs:∀ s∈p,s.s.size<=4611686018427387904) (rt:Nat) (hrt:resRoot S=rt) (hrl:rt < ND.length) :
  EvP Tryz.prog 138 [.pt PC 0,.sl 3 (dStps p) none] (walkT (walkV ND (leqS S) S.levels.length p rt (botF (leqS S) S.levels.length))):=by
 obtain ⟨LC,hlat,hLR⟩:=hP.latR;have hroot:=hP.root;rw [hrt] at hroot;have hbot:=hLR.bot;have hbl:=botF_lt hLR.ok;have hst:=fun s hr i a hi ha=>estep_spec hP s hr i a hi ha;have hwd:=walkV_drop ND (leqS S) S.levels.length p;have hok:=fun {s i a j b}=>@estW_ok _ _ hLR.ok _ hP.ok s i a j b;have hdl:=dStps_len p
 have hsr:∀ s i a,rightS s=false->estW ND (leqS S) S.levels.length s i a=none:=fun s i a h=>by
  unfold estW
  cases ND[i]? with
  | none=>rfl
  | some d=>simp [edgeI,h]
 generalize hR:walkV ND (leqS S) S.levels.length p rt (botF (leqS S) S.levels.length)=R;have hR0:walkV ND (leqS S) S.levels.length (p.drop 0) rt (botF (leqS S) S.levels.length)=R:=by rw [List.drop_zero];exact hR
 clear hR;generalize botF (leqS S) S.levels.length=bt at hbot hbl hR0;refine ev_go (P:=Tryz.prog) tt tt_ok 5000 42 [.tmp 4,.tmp 5,.tmp 6] Tryz.func138 rfl Tryz.ntmps138 rfl (nL rfl) (fun E9 w9 hn9 hm9=>?_);refine call_p en35 (hroot) ax rfl ?_;refine call_p en53 (hlat) ax rfl ?_;refine call_p en247 (hbot) ax rfl ?_;refine loop_i (fun j st=>∃ e i a:Nat,st=ewkSt PC p i a e/\e<=p.length/\i < ND.length/\a < S.levels.length/\walkV ND (leqS S) S.levels.length (p.drop e) i a=R/\j=p.length - e) p.length (ewkSt PC p rt bt 0) (weak_mk ⟨_,rfl⟩ wA rfl rfl rfl wB) ⟨0,rt,bt,rfl,by omega,hrl,hbl,hR0,by omega⟩ ?_;rintro j st ⟨e,i,a,rfl,he,hi,ha,hw,rfl⟩;rw [hwd] at hw;refine br (fun hL=>?_) (fun hL=>?_)
 ·have hlt:e < p.length:=by simpa [hdl] using hL
  obtain ⟨x,hx⟩:∃ x,p[e]? = some x:=⟨_,gE hlt⟩;have hxs:=hs x (mG hx);have hr:=pright_spec [x] (by simpa using hxs);rw [rightP_one] at hr;rw [hx] at hw;simp only at hw
  cases hrx:rightS x with
  | false=>
   rw [hsr x i a hrx] at hw;simp only at hw;subst hw;rw [hrx] at hr;obtain ⟨xk,xn,xt⟩:=x;refine ⟨_,⟨by omega,dStps_get hx⟩,?_⟩;refine call_p en248 (hr) ax rfl ?_;exact ⟨_,ax,rfl⟩
  | true=>
   have hsx:=hst x hrx i a hi ha;have hkx:=@hok x i a;rw [hrx] at hr;generalize estW ND (leqS S) S.levels.length x i a=o at hw hsx hkx;obtain ⟨xk,xn,xt⟩:=x;refine ⟨_,⟨by omega,dStps_get hx⟩,?_⟩;refine call_p en248 (hr) ax rfl ?_;refine call_p en249 (hsx) ax rfl ?_
   cases o with
   | none=>
    simp only at hw;subst hw;exact ⟨_,ax,rfl⟩
   | some r=>
    obtain ⟨j,b⟩:=r;simp only at hw;obtain ⟨h1,h2⟩:=hkx hi ha rfl;exact ⟨ewkSt PC p j b (e + 1),(weak_b 1 rfl (wNA hlt) rfl rfl rfl (wNB hlt)),p.length - (e + 1),by omega,e + 1,j,b,rfl,by omega,h1,h2,hw,rfl⟩
 ·have hge:p.length<=e:=by simpa [hdl] using hL
  rw [List.getElem?_eq_none hge] at hw;simp only at hw;subst hw;refine drawG_i (fun _=>false) mo (by decide +kernel) ?_;exact ⟨_,ax,rfl⟩
abbrev on1St (n:Nd) (K:List Bool) (s v:Bool) (e:Nat):St:=
 ⟨[(1,⟨[],.sl 1 (dBo K) none⟩),(2,⟨[],.loc 0 0⟩),(5,⟨[],.v (.bool s)⟩),(6,⟨[],.v (.bool v)⟩),(7,⟨[],.v (.int .i64 e)⟩)],[dNd n],[]⟩
theorem one19_spec {L:Nat} {n:Nd} (K:List Bool) (hK:K.length<=1099511627776) (hn:NdOK L K.length n) (hel:n.edges.length<=1099511627776) :
  EvP Tryz.prog 192 [.agg (dNd n),.sl 1 (dBo K) none] (.v (.bool (hvB n K))):=by
 have hedge:=hn.edge;have hbare:=hn.bare;have hk8:=hn.k8;obtain ⟨kind,at',lo,hi,most,names,es⟩:=n;simp only at hedge hbare hel hk8;refine ev_go (P:=Tryz.prog) tt tt_ok 5000 50 [.tmp 4] Tryz.func192 rfl Tryz.ntmps192 rfl (nL rfl) (fun E9 w9 hn9 hm9=>?_);refine br (fun h7=>?_) (fun h7=>?_)
 ·have h7:kind < 7:=by simpa using h7
  refine (congrArg (fun b=>DV.v (.bool b)) ?_:_=_);simp [hvB,h7]
 have h7:¬ kind < 7:=by simpa using h7
 refine loop_i (fun j st=>∃ e:Nat,st=on1St ⟨kind,at',lo,hi,most,names,es⟩ K ((es.take e).any (inK K)) ((es.take e).all (inK K)) e/\e<=es.length/\j=es.length - e) es.length (on1St ⟨kind,at',lo,hi,most,names,es⟩ K false true 0) (weak_mk ⟨_,rfl⟩ wA rfl rfl rfl wB) ⟨0,by simp,by omega,by omega⟩ ?_;rintro j st ⟨e,rfl,he,rfl⟩;refine br (fun hL=>?_) (fun hL=>?_)
 ·have hlt:e < es.length:=by have:=hL;simp [dEds_len] at this;exact this
  obtain ⟨x,hx⟩:∃ x,es[e]? = some x:=⟨_,gE hlt⟩;refine ⟨_,⟨by omega,dEds_get hx⟩,?_⟩;have hs:(es.take (e + 1)).any (inK K)=((es.take e).any (inK K) || inK K x):=by rw [List.take_add_one,hx];simp
  have hv:(es.take (e + 1)).all (inK K)=((es.take e).all (inK K) && inK K x):=by rw [List.take_add_one,hx];simp
  generalize (es.take e).any (inK K)=s at hs ⊢;generalize (es.take e).all (inK K)=v at hv ⊢;refine br (fun hb=>?_) (fun hb=>?_)
  ·have hb:x.bare=false:=by simpa using hb
   obtain ⟨k,hk,hkl⟩:=(hedge x (mG hx)).to1 hb;obtain ⟨b,hb1⟩:∃ b,K[k]? = some b:=⟨_,gE hkl⟩;have hg:(dBo K)[(max x.to 0).toNat]? = some [DV.v (.bool b)]:=by rw [show (max x.to 0).toNat=k by omega];exact dBo_get hb1
   have hik:inK K x=b:=by unfold inK;rw [hb,hk];simp [List.getD_eq_getElem?_getD,hb1]
   rw [hik] at hs hv;refine ⟨_,⟨by omega,dEds_get hx⟩,?_⟩;refine ⟨_,⟨by omega,hg⟩,?_⟩;have e5:pickB s true b=(es.take (e + 1)).any (inK K):=by rw [hs,pickB_or]
   have e6:pickB v b false=(es.take (e + 1)).all (inK K):=by rw [hv,pickB_and]
   exact ⟨on1St ⟨kind,at',lo,hi,most,names,es⟩ K ((es.take (e + 1)).any (inK K)) ((es.take (e + 1)).all (inK K)) (e + 1),(weak_mk ⟨_,rfl⟩ wA rfl rfl rfl (by repeat' (first | exact trivial | exact we_rfl rfl | exact we_bool e5 | exact we_bool e6 | exact we_int (nxt hlt (by omega)) | refine ⟨⟨_,rfl,?_⟩,?_⟩))),es.length - (e + 1),by omega,e + 1,rfl,by omega,rfl⟩
  ·have hb:x.bare=true:=by simpa using hb
   have hik:inK K x=true:=by unfold inK;rw [hb];all_goals rfl
   rw [hik] at hs hv;have e5:pickB s true true=(es.take (e + 1)).any (inK K):=by rw [hs,pickB_or]
   have e6:pickB v true false=(es.take (e + 1)).all (inK K):=by rw [hv,pickB_and]
   exact ⟨on1St ⟨kind,at',lo,hi,most,names,es⟩ K ((es.take (e + 1)).any (inK K)) ((es.take (e + 1)).all (inK K)) (e + 1),(weak_mk ⟨_,rfl⟩ wA rfl rfl rfl (by repeat' (first | exact trivial | exact we_rfl rfl | exact we_bool e5 | exact we_bool e6 | exact we_int (nxt hlt (by omega)) | refine ⟨⟨_,rfl,?_⟩,?_⟩))),es.length - (e + 1),by omega,e + 1,rfl,by omega,rfl⟩
 ·have hge:e=es.length:=by have:=hL;simp [dEds_len] at this;omega
  subst hge;rw [List.take_length];refine br (fun g=>?_) (fun g=>?_)
  ·have g:kind=7:=by simpa using g
   refine (congrArg (fun b=>DV.v (.bool b)) ?_:_=_);simp [hvB,g]
  ·have g:¬ kind=7:=by simpa using g
   refine (congrArg (fun b=>DV.v (.bool b)) ?_:_=_);simp [hvB,g,h7]
theorem ms_b {bx:List (List DV)} {N n0 m0 n i:Nat} {r:List Bool} (hr:r.length=n) (hN:N<=i) (hb:bx[i]? = some (cB r)):Cc bx N n0 m0 (.sl 1 (dBo r) none) (.ms i 1 0 n n):=by
 simp only [Cc];refine Or.inr (Or.inr (Or.inl ⟨i,0,n,_,by rw [dBo_len,hr],hN,hb,?_,?_,?_⟩))
 ·rw [dBo_flat,List.drop_zero,List.take_of_length_le (by rw [cB_len,dBo_len];omega)]
 ·intro x hx;simp only [dBo,List.mem_map] at hx;obtain ⟨_,_,rfl⟩:=hx;rfl
 ·intro x hx;rw [dBo_flat] at hx;obtain ⟨_,_,rfl⟩:=List.mem_map.1 hx;exact ⟨_,rfl⟩
theorem ccL_cN (l:List Nat) (bx:List (List DV)) (N n m:Nat):CcL bx N n m (cN l) (cN l):=by
 induction l with
 | nil=>rfl
 | cons a r ih=>exact ⟨_,_,rfl,rfl,ih⟩
abbrev wG (a b:Nat) (A B:List (List DV)) (ND:List Nd) (z:Int):List DV:=[.sl a A none,.sl b B none,.sl 7 (dNds ND) none,.v (.int .i64 z)]
abbrev rd1St (W:List DV) (O:List Nat) (K:List Bool) (n d:Nat):St:=
 ⟨[(1,⟨[],.loc 0 0⟩),(3,⟨[],.ms 1 1 0 n n⟩),(4,⟨[],.sl 1 (dBo K) none⟩),(5,⟨[],.v (.int .i64 d)⟩)],[W,cN O],[]⟩
abbrev rd2St (W:List DV) (O:List Nat) (K:List Bool) (M:List Bool) (n d e:Nat):St:=
 ⟨[(1,⟨[],.loc 0 0⟩),(3,⟨[],.ms 1 1 0 n n⟩),(4,⟨[],.sl 1 (dBo K) none⟩),(5,⟨[],.v (.int .i64 d)⟩),(6,⟨[],.ms 2 1 0 n n⟩),(7,⟨[],.v (.int .i64 e)⟩)],[W,cN O,cB M],[]⟩
theorem depths19_spec (a b:Nat) (A B:List (List DV)) {ND:List Nd} {L:Nat} (z:Int) (hok:∀ n∈ND,NdOK L ND.length n) (hnl:ND.length<=1099511627776) (hsz:∀ n∈ND,n.edges.length<=1099511627776) :
  EvP Tryz.prog 82 [.agg (wG a b A B ND z)] (.sl 1 (dInts (depN ND ND.length)) none):=by
 have hdl:=dNds_len ND;refine ev_go (P:=Tryz.prog) tt tt_ok 5000 61 [.tmp 2] Tryz.func82 rfl Tryz.ntmps82 rfl (nL rfl) (fun E9 w9 hn9 hm9=>?_);refine ⟨⟨rfl,by omega,by rw [hdl];omega,by rw [hdl];omega⟩,?_⟩;refine ⟨⟨rfl,by omega,by rw [hdl];omega,by rw [hdl];omega⟩,?_⟩;refine loop_w (fun j st=>∃ d:Nat,st=rd1St (wG a b A B ND z) (depN ND d) (posL (depN ND d)) (dNds ND).length (d + 1)/\d<=ND.length/\j=ND.length - d) ND.length (rd1St (wG a b A B ND z) (depN ND 0) (posL (depN ND 0)) (dNds ND).length 1) (.frz 2 rfl rfl ?_ rfl ?_) ⟨0,rfl,by omega,by omega⟩ ?_
 ·refine ⟨_,_,rfl,ax,_,_,rfl,?_,rfl⟩;rw [repN,hdl];exact ccL_cN _ _ _ _ _
 ·refine ⟨⟨_,rfl,aL⟩,⟨_,rfl,aL⟩,⟨_,rfl,ms_b (by rw [posL_len,depN_len,hdl];omega) (Nat.le_refl _) ?_⟩,⟨_,rfl,ax⟩,trivial⟩;refine congrArg some ?_;rw [repB,hdl];simp [posL,depN]
 rintro j st ⟨d,rfl,hd,rfl⟩;have hpl:(posL (depN ND d)).length=ND.length:=by rw [posL_len,depN_len]
 refine br (fun hc=>?_) (fun hc=>?_)
 ·have hlt:d < ND.length:=by have:=hc;simp [hdl] at this;omega
  refine ⟨⟨rfl,by omega,by rw [hdl];omega,by rw [hdl];omega⟩,?_⟩;refine loop_i (fun j st=>∃ (e:Nat) (O:List Nat) (M:List Bool),st=rd2St (wG a b A B ND z) O (posL (depN ND d)) M (dNds ND).length (d + 1) e/\e<=ND.length/\O.length=ND.length/\M.length=ND.length/\(∀ i:Nat,i < e->O.getD i 0=(depN ND (d + 1)).getD i 0/\M.getD i false=(posL (depN ND (d + 1))).getD i false)/\(∀ i:Nat,e<=i->O.getD i 0=(depN ND d).getD i 0)/\j=ND.length - e) ND.length (rd2St (wG a b A B ND z) (depN ND d) (posL (depN ND d)) (List.replicate ((dNds ND).length:Int).toNat false) (dNds ND).length (d + 1) 0) (weak_b 3 rfl (by repeat' (first | exact rfl | exact we_rfl rfl | exact weL_cN rfl | exact weL_cB (repB _) | refine ⟨_,_,rfl,?_,?_⟩)) rfl rfl rfl (by repeat' (first | exact trivial | exact we_rfl rfl | exact weL_cN rfl | exact weL_cB (repB _) | refine ⟨⟨_,rfl,?_⟩,?_⟩))) ⟨0,_,_,rfl,by omega,by rw [depN_len],by rw [List.length_replicate,hdl];omega,fun i hi=>by omega,fun i _=>rfl,by omega⟩ ?_;rintro j st ⟨e,O,M,rfl,he,hO,hM,hv1,hv2,rfl⟩;refine br (fun hL=>?_) (fun hL=>?_)
  ·have hle:e < ND.length:=by have:=hL;simp [hdl] at this;exact this
   obtain ⟨n,hn⟩:∃ n,ND[e]? = some n:=⟨_,gE hle⟩;have hnm:=mG hn;have h1:=one19_spec (posL (depN ND d)) (by rw [hpl];exact hnl) (n:=n) (by rw [hpl];exact hok n hnm) (hsz n hnm);obtain ⟨r1,r2⟩:=depN_ref (fun m hm=>⟨(hok m hm).k8,(hok m hm).bare⟩) d hn;refine ⟨_,⟨by omega,dNds_get hn⟩,?_⟩;refine call_p en192 (h1) ax rfl ?_
   have hst:(cB M).set (0 + (e:Int).toNat * 1) (DV.v (.bool (hvB n (posL (depN ND d)))))=cB (M.set e (hvB n (posL (depN ND d)))):=by
    rw [show 0 + (e:Int).toNat * 1=e by omega,cB_set]
   have hld:(cB (M.set e (hvB n (posL (depN ND d)))))[0 + (e:Int).toNat * 1]? = some (DV.v (.bool (hvB n (posL (depN ND d))))):=by
    rw [show 0 + (e:Int).toNat * 1=e by omega];exact cB_get (List.getElem?_set_self (by omega))
   obtain ⟨q,hq⟩:∃ q,O[e]? = some q:=⟨_,gE (by omega)⟩;have hqd:(depN ND d).getD e 0=q:=by rw [<- hv2 e (Nat.le_refl _),List.getD_eq_getElem?_getD,hq];all_goals rfl
   rw [hqd] at r1
   have hMs:∀ i:Nat,i < e + 1->(M.set e (hvB n (posL (depN ND d)))).getD i false=(posL (depN ND (d + 1))).getD i false:=fun i hi=>by
    by_cases hie:i=e
    ·subst hie;rw [r2,List.getD_eq_getElem?_getD,List.getElem?_set_self (by omega)];all_goals rfl
    ·rw [List.getD_eq_getElem?_getD,List.getElem?_set_ne (Ne.symm hie),<- List.getD_eq_getElem?_getD];exact (hv1 i (by omega)).2
   generalize hvB n (posL (depN ND d))=h at hst hld r1 hMs ⊢;refine ⟨⟨by omega,by rw [hdl];omega⟩,?_⟩;refine ⟨by rw [cB_len];omega,?_⟩;refine ⟨⟨by omega,by rw [hdl];omega⟩,?_⟩;refine ⟨DV.v (.bool h),(by rw [hst];exact hld),?_⟩
   have hOs:∀ v,v=(depN ND (d + 1)).getD e 0->∀ i:Nat,i < e + 1->(O.set e v).getD i 0=(depN ND (d + 1)).getD i 0:=fun v hv i hi=>by
    by_cases hie:i=e
    ·subst hie;rw [<- hv,List.getD_eq_getElem?_getD,List.getElem?_set_self (by omega)];all_goals rfl
    ·rw [List.getD_eq_getElem?_getD,List.getElem?_set_ne (Ne.symm hie),<- List.getD_eq_getElem?_getD];exact (hv1 i (by omega)).1
   have hOr:∀ v:Nat,∀ i:Nat,e + 1<=i->(O.set e v).getD i 0=(depN ND d).getD i 0:=fun v i hi=>by
    rw [List.getD_eq_getElem?_getD,List.getElem?_set_ne (by omega),<- List.getD_eq_getElem?_getD];exact hv2 i (by omega)
   have hOq:O.set e q=O:=List.ext_getElem? fun i=>by
    by_cases hie:e=i
    ·subst hie;rw [List.getElem?_set_self (by omega),hq]
    ·rw [List.getElem?_set_ne hie]
   refine br (fun g=>?_) (fun g=>?_)
   ·have g:h=true:=by simpa using g
    refine ⟨⟨by omega,by rw [hdl];omega⟩,?_⟩;refine ⟨DV.v (.int .i64 (q:Int)),(by rw [show 0 + (e:Int).toNat * 1=e by omega];exact cN_get hq),?_⟩;refine br (fun g2=>?_) (fun g2=>?_)
    ·have g2:q=0:=by simpa [pickB,pickD] using g2
     rw [if_pos ⟨g,g2⟩] at r1;refine ⟨⟨by omega,by rw [hdl];omega⟩,?_⟩;refine ⟨by rw [cN_len];omega,?_⟩
     have hso:(cN O).set (0 + (e:Int).toNat * 1) (DV.v (.int .i64 ((d + 1:Nat):Int)))=cN (O.set e (d + 1)):=by
      rw [show 0 + (e:Int).toNat * 1=e by omega,cN_set]
     exact ⟨rd2St (wG a b A B ND z) (O.set e (d + 1)) (posL (depN ND d)) (M.set e h) (dNds ND).length (d + 1) (e + 1),(weak_b 3 rfl (by repeat' (first | exact rfl | exact we_rfl rfl | exact weL_cN hso | exact weL_cB hst | exact we_int (nxt hle (by omega)) | refine ⟨_,_,rfl,?_,?_⟩)) rfl rfl rfl (by repeat' (first | exact trivial | exact we_rfl rfl | exact weL_cN hso | exact weL_cB hst | exact we_int (nxt hle (by omega)) | refine ⟨⟨_,rfl,?_⟩,?_⟩))),ND.length - (e + 1),by omega,e + 1,_,_,rfl,by omega,by simp [hO],by rw [List.length_set];exact hM,fun i hi=>⟨hOs _ r1.symm i hi,hMs i hi⟩,hOr (d + 1),rfl⟩
    ·have g2:¬ q=0:=by simpa [pickB,pickD] using g2
     rw [if_neg (fun h=>g2 h.2)] at r1;exact ⟨rd2St (wG a b A B ND z) (O.set e q) (posL (depN ND d)) (M.set e h) (dNds ND).length (d + 1) (e + 1),(weak_b 3 rfl (by repeat' (first | exact rfl | exact we_rfl rfl | exact weL_cN (by rw [hOq]) | exact weL_cB hst | exact we_int (nxt hle (by omega)) | refine ⟨_,_,rfl,?_,?_⟩)) rfl rfl rfl (by repeat' (first | exact trivial | exact we_rfl rfl | exact weL_cN (by rw [hOq]) | exact weL_cB hst | exact we_int (nxt hle (by omega)) | refine ⟨⟨_,rfl,?_⟩,?_⟩))),ND.length - (e + 1),by omega,e + 1,_,_,rfl,by omega,by simp [hO],by rw [List.length_set];exact hM,fun i hi=>⟨hOs _ r1.symm i hi,hMs i hi⟩,hOr q,rfl⟩
   ·have g:h=false:=by simpa using g
    rw [if_neg (by rw [g];simp)] at r1;exact ⟨rd2St (wG a b A B ND z) (O.set e q) (posL (depN ND d)) (M.set e h) (dNds ND).length (d + 1) (e + 1),(weak_b 3 rfl (by repeat' (first | exact rfl | exact we_rfl rfl | exact weL_cN (by rw [hOq]) | exact weL_cB hst | exact we_int (nxt hle (by omega)) | refine ⟨_,_,rfl,?_,?_⟩)) rfl rfl rfl (by repeat' (first | exact trivial | exact we_rfl rfl | exact weL_cN (by rw [hOq]) | exact weL_cB hst | exact we_int (nxt hle (by omega)) | refine ⟨⟨_,rfl,?_⟩,?_⟩))),ND.length - (e + 1),by omega,e + 1,_,_,rfl,by omega,by simp [hO],by rw [List.length_set];exact hM,fun i hi=>⟨hOs _ r1.symm i hi,hMs i hi⟩,hOr q,rfl⟩
  ·have hge:e=ND.length:=by have:=hL;simp [hdl] at this;omega
   subst hge
   have hO2:O=depN ND (d + 1):=getD_ext (by rw [hO,depN_len]) fun j=>by
    rcases Nat.lt_or_ge j ND.length with hj | hj
    ·exact (hv1 j hj).1
    ·simp only [List.getD_eq_getElem?_getD];rw [List.getElem?_eq_none (by omega),List.getElem?_eq_none (by rw [depN_len];omega)]
   have hM2:M=posL (depN ND (d + 1)):=leB_anti (by rw [hM,posL_len,depN_len]) (fun j hj=>by
     rcases Nat.lt_or_ge j ND.length with h | h
     ·rw [<- (hv1 j h).2];exact hj
     ·rw [List.getD_eq_getElem?_getD,List.getElem?_eq_none (by omega)] at hj;cases hj) (fun j hj=>by
     rcases Nat.lt_or_ge j ND.length with h | h
     ·rw [(hv1 j h).2];exact hj
     ·rw [List.getD_eq_getElem?_getD,List.getElem?_eq_none (by rw [posL_len,depN_len];omega)] at hj;cases hj)
   subst hO2 hM2;refine ⟨rd1St (wG a b A B ND z) (depN ND (d + 1)) (posL (depN ND (d + 1))) (dNds ND).length (d + 1 + 1),.frz 2 rfl rfl ⟨_,_,rfl,ax,_,_,rfl,ccL_cN _ _ _ _ _,rfl⟩ rfl ⟨⟨_,rfl,aL⟩,⟨_,rfl,aL⟩,⟨_,rfl,ms_b (by rw [posL_len,depN_len,hdl]) (Nat.le_refl _) rfl⟩,⟨_,rfl,?_⟩,trivial⟩,ND.length - (d + 1),by omega,d + 1,rfl,by omega,rfl⟩;exact congrArg (fun z=>DV.v (Value.int .i64 z)) (nxt (n:=1099511627777) (by omega) (by omega))
 ·have hge:d=ND.length:=by have:=hc;simp [hdl] at this;omega
  subst hge;exact ⟨_,ms_n (by rw [depN_len,hdl]) (Nat.zero_le _) rfl,rfl⟩
end Go.Proofs.YtadbccicdbopcaaGreat
set_option maxRecDepth 100000
namespace Go.Proofs.YtadbccicdbopcaaGreat
open Go Go.RowKit Dv Tryz
end Go.Proofs.YtadbccicdbopcaaGreat
set_option maxRecDepth 100000
namespace Go.Proofs.YtadbccicdbopcaaGreat
open Go Go.RowKit Dv Tryz
def exH (k:Int):Hd:=⟨k,0,0,0,0,[],⟨emptyB,0⟩⟩
theorem resNds_bare {S:Sch} (hF:FineS S) {i:Nat} {n:Nd} (h:(resNds S)[i]? = some n) {e:Ed} (he:e∈n.edges) (hb:e.bare=true):e.ck=0:=by
 have hk8:=(resNds_ok hF h).bare e he hb;rw [resNds_eq] at h;obtain ⟨t,ht,u,hu,rfl,hpos⟩:=ndsA_get h;have hwr:=flatT_wr t ⟨_,_,hF.wr t ht⟩ u hu;have hT:=tyF_of hwr;obtain ⟨uh,us⟩:=u;simp only [Ty.h,Ty.ps] at hT;obtain ⟨p,v,k',h1,rfl,_⟩:=edsP_mem he;obtain ⟨j,hj⟩:=List.mem_iff_getElem?.1 h1;obtain ⟨_,hP⟩:=(hT.many (.inr hk8)).2.2 j p v hj;rcases hP with ⟨_,_,_,hpl⟩ | ⟨hb',_⟩
 ·exact (wide_zero hpl).2.2.1
 ·have:p.bare=true:=hb;rw [hb'] at this;cases this
def wantK (ck:Int):Int:=if ck=3 then 5 else if ck=2 then 3 else 2
def EffE (f:Nat->Nat->Bool) (ND:List Nd) (e:Ed):Prop:=e.ck≠0->(∃ m,ND[e.to.toNat]? = some m/\m.kind=wantK e.ck)/\f e.seen.toNat e.label.toNat=true/\f e.label.toNat e.seen.toNat=false
def EffOK (f:Nat->Nat->Bool) (ND:List Nd):Prop:=∀ n∈ND,∀ e∈n.edges,EffE f ND e
abbrev w20St (W:List DV) (e:Nat):St:=⟨[(1,⟨[],.loc 0 0⟩),(2,⟨[],.loc 1 0⟩),(3,⟨[],.v (.int .i64 e)⟩)],[W,[.v (.int .i64 0),.v (.int .i64 0)]],[]⟩
abbrev w20bSt (W:List DV) (es:List Ed) (e k:Nat):St:=⟨[(1,⟨[],.loc 0 0⟩),(2,⟨[],.loc 1 0⟩),(3,⟨[],.v (.int .i64 e)⟩),(4,⟨[],.sl 10 (dEds es) none⟩),(5,⟨[],.v (.int .i64 k)⟩)],[W,[.v (.int .i64 0),.v (.int .i64 0)]],[]⟩
def W20Φ (f:Nat->Nat->Bool) (ND:List Nd) (r:DV):Prop:=∃ ft:Ft,r=ft.d/\(ft.1=0->EffOK f ND)
theorem wrong20_spec (lv:List Wd) (f:Nat->Nat->Bool) (ND:List Nd) (z:Int) (hn:lv.length<=32) (hok:∀ n∈ND,NdOK lv.length ND.length n) (hnl:ND.length<=1099511627776) (hsz:∀ n∈ND,n.edges.length<=1099511627776) (hbr:∀ n∈ND,∀ e∈n.edges,e.bare=true->e.ck=0) :
  Ev Tryz.prog 341 [.agg (wL lv f ND z)] [] [] (fun r _ _=>W20Φ f ND r):=by
 have hNl:=dNds_len ND;refine ev_go (P:=Tryz.prog) tt tt_ok 5000 79 [.cell 2 46] Tryz.func341 rfl Tryz.ntmps341 rfl (nL rfl) (fun E9 w9 hn9 hm9=>?_);refine loop_i (fun j st=>∃ e:Nat,st=w20St (wL lv f ND z) e/\e<=ND.length/\(∀ c n,c < e->ND[c]? = some n->∀ x∈n.edges,EffE f ND x)/\j=ND.length - e) ND.length (w20St (wL lv f ND z) 0) (weak_mk ⟨_,rfl⟩ wA rfl rfl rfl wB) ⟨0,rfl,by omega,fun _ _ h=>by omega,by omega⟩ ?_;rintro j st ⟨e,rfl,he,hno,rfl⟩;refine br (fun hL=>?_) (fun hL=>?_)
 ·have hlt:e < ND.length:=by simpa [hNl] using hL
  obtain ⟨d,hd⟩:∃ d,ND[e]? = some d:=⟨_,gE hlt⟩;have hm:=mG hd;have hN:=hok d hm;have hel:=hsz d hm;have hdl:=dEds_len d.edges;have hbd:=hbr d hm;refine ⟨_,⟨by omega,dNds_get hd⟩,?_⟩;refine loop_i (fun j st=>∃ k:Nat,st=w20bSt (wL lv f ND z) d.edges e k/\k<=d.edges.length/\(∀ c x,c < k->d.edges[c]? = some x->EffE f ND x)/\j=d.edges.length - k) d.edges.length (w20bSt (wL lv f ND z) d.edges e 0) (weak_mk ⟨_,rfl⟩ wA rfl rfl rfl wB) ⟨0,rfl,by omega,fun _ _ h=>by omega,by omega⟩ ?_;rintro j st ⟨k,rfl,hk,hno2,rfl⟩;refine br (fun hL2=>?_) (fun hL2=>?_)
  ·have hkt:k < d.edges.length:=by simpa [hdl] using hL2
   obtain ⟨x,hx⟩:∃ x,d.edges[k]? = some x:=⟨_,gE hkt⟩;have hmx:=mG hx;obtain ⟨hto,⟨h2,h2'⟩,h3,h3'⟩:=edge_nums hN hmx;have hbx:=hbd x hmx;have hck:=(hN.edge x hmx).ck
   have hnext:EffE f ND x->∀ c y,c < k + 1->d.edges[c]? = some y->EffE f ND y:=fun h c y hc hy=>by
    rcases Nat.lt_succ_iff_lt_or_eq.1 hc with h1 | h1
    ·exact hno2 c y h1 hy
    ·rw [h1,hx] at hy;simp only [oI] at hy;rw [<- hy];exact h
   have hE:EffE f ND x=(x.ck≠0->(∃ m,ND[x.to.toNat]? = some m/\m.kind=wantK x.ck)/\f x.seen.toNat x.label.toNat=true/\f x.label.toNat x.seen.toNat=false):=rfl;generalize EffE f ND x=EX at hE hnext;obtain ⟨en,eb,ea,et,elb,ew,eck,ecn,ese,eca⟩:=x;simp only at h2 h2' h3 h3' hto hbx hck hE;obtain ⟨lb,rfl⟩:∃ n:Nat,elb=n:=⟨_,h2⟩;obtain ⟨sn,rfl⟩:∃ n:Nat,ese=n:=⟨_,h3⟩;simp only [Int.toNat_natCast] at h2' h3' hE;refine ⟨_,⟨by omega,dEds_get hx⟩,?_⟩;refine br (fun g=>?_) (fun g=>?_)
   ·have g:eck=0:=by simpa using g
    exact ⟨w20bSt (wL lv f ND z) d.edges e (k + 1),(weak_b 2 rfl (wNA hkt) rfl rfl rfl (wNB hkt)),d.edges.length - (k + 1),by omega,k + 1,rfl,by omega,hnext (by rw [hE];intro h;exact absurd g h),rfl⟩
   have g:¬ eck=0:=by simpa using g
   obtain ⟨h1,h1'⟩:=hto (by
    cases hb:eb
    ·rfl
    ·exact absurd (hbx hb) g)
   obtain ⟨tn,rfl⟩:∃ n:Nat,et=n:=⟨_,h1⟩;simp only [Int.toNat_natCast] at h1' hE;obtain ⟨m,hmt⟩:∃ m,ND[tn]? = some m:=⟨_,gE h1'⟩
   have hW:∀ w:Int,w=wantK eck->(m.kind=w/\f sn lb=true/\f lb sn=false)->EX:=fun w h1 h2=>by
    rw [hE];exact fun _=>⟨⟨m,hmt,by rw [<- h1];exact h2.1⟩,h2.2⟩
   have h3c:eck=1∨eck=2∨eck=3:=by omega
   rcases h3c with rfl | rfl | rfl
   all_goals
    refine ⟨_,⟨Int.natCast_nonneg _,dNds_get hmt⟩,?_⟩;refine br (fun c1=>?_) (fun c1=>?_)
    ·exact ⟨Ft.d (14,eca),ax,(14,eca),rfl,fun h=>by simp at h⟩
    refine drawG_i (fun _=>false) mo (by decide +kernel) ?_;refine ⟨_,⟨Int.natCast_nonneg _,mrow_get h3'⟩,?_⟩;refine ⟨_,⟨Int.natCast_nonneg _,mcell_get h2'⟩,?_⟩;refine br (fun c2=>?_) (fun c2=>?_)
    ·refine ⟨_,⟨Int.natCast_nonneg _,mrow_get h2'⟩,?_⟩;refine ⟨_,⟨Int.natCast_nonneg _,mcell_get h3'⟩,?_⟩;refine br (fun c3=>?_) (fun c3=>?_)
     ·exact ⟨Ft.d (18,eca),ax,(18,eca),rfl,fun h=>by simp at h⟩
     ·have hx:=hnext (hW _ rfl ⟨by simpa [wantK] using c1,by simpa using c2,by simpa [pickB] using c3⟩);exact ⟨w20bSt (wL lv f ND z) d.edges e (k + 1),(weak_b 2 rfl (wNA hkt) rfl rfl rfl (wNB hkt)),d.edges.length - (k + 1),by omega,k + 1,rfl,by omega,hx,rfl⟩
    ·exact ⟨Ft.d (18,eca),ax,(18,eca),rfl,fun h=>by simp at h⟩
  ·have hge:k=d.edges.length:=by have:=hL2;simp [hdl] at this;omega
   subst hge
   exact ⟨w20St (wL lv f ND z) (e + 1),(weak_mk ⟨_,rfl⟩ wA rfl rfl rfl (wNB hlt)),ND.length - (e + 1),by omega,e + 1,rfl,by omega,fun c n hc hn x hxm=>by
    rcases Nat.lt_succ_iff_lt_or_eq.1 hc with h1 | h1
    ·exact hno c n h1 hn x hxm
    ·rw [h1,hd] at hn;simp only [oI] at hn;rw [<- hn] at hxm;obtain ⟨q,hq⟩:=List.mem_iff_getElem?.1 hxm
     exact hno2 q x (gS hq).1 hq,rfl⟩
 ·have hge:e=ND.length:=by have:=hL;simp [hNl] at this;omega
  subst hge
  exact ⟨Ft.d (0,0),ax,(0,0),rfl,fun _ n hn x hx=>by
   obtain ⟨q,hq⟩:=List.mem_iff_getElem?.1 hn
   exact hno q n (gS hq).1 hq x hx⟩
structure Fine21 (S:Sch):Prop where
 res:(resF S).1=0
 live:∀ i:Nat,i < (resNds S).length->(depN (resNds S) (resNds S).length).getD i 0≠0
 eff:EffOK (leqS S) (resNds S)
abbrev w21St (S:Sch) (a b:Int) (W:List DV) (D:List Nat) (e:Nat):St:=
 ⟨[(1,⟨[],.loc 0 0⟩),(3,⟨[],.loc 1 0⟩),(5,⟨[],.loc 3 0⟩),(6,⟨[],.sl 1 (dInts D) none⟩),(7,⟨[],.v (.int .i64 e)⟩)],[dSch S,[.v (.int .i64 0),.v (.int .i64 0)],[.v (.int .i64 a),.v (.int .i64 b)],W],[]⟩
theorem wrong21_spec (S:Sch) (hS:S.wt<=1099511627776):Ev Tryz.prog 246 [.agg (dSch S)] [] [] (fun r _ _=>∃ (z:Int) (ft:Ft),r = .tup [.v (.int .i64 z),ft.d]/\(z=0->Fine21 S)):=by
 have hwr:=wrong18_spec S hS;have hw:=fun h=>build18_spec S hS h;generalize hR:resF S=R at hwr;obtain ⟨levels,order,types,⟨rh,rp⟩⟩:=S;refine ev_go (P:=Tryz.prog) tt tt_ok 5000 44 [.tmp 2,.cell 3 46] Tryz.func246 rfl Tryz.ntmps246 rfl (nL rfl) (fun E9 w9 hn9 hm9=>?_);refine call_p en73 (hwr) ax rfl ?_;refine br (fun g=>?_) (fun g=>?_)
 ·refine drawG_s mo (by decide +kernel) ?_;exact ⟨.tup [.v (.int .i64 2),Ft.d R],ax,2,R,rfl,fun h=>by simp at h⟩
 have g:R.1=0:=by simpa using g
 have h0:(resF ⟨levels,order,types,.mk rh rp⟩).1=0:=by rw [hR];exact g
 have hF:=fineS_of h0;have hw:=hw h0;obtain ⟨hLat,h32⟩:=latOK_of hF.lat;have hok:=fun n (hn:n∈resNds ⟨levels,order,types,.mk rh rp⟩)=>(List.mem_iff_getElem?.1 hn).elim fun i hi=>resNds_ok hF hi;have hnl:(resNds ⟨levels,order,types,.mk rh rp⟩).length<=1099511627776:=by rw [resNds_len];exact Nat.le_trans (nnS_wt _) hS
 have hsz:=fun n (hn:n∈resNds ⟨levels,order,types,.mk rh rp⟩)=>(resNds_sz hn hS).2;have hbr:=fun n (hn:n∈resNds ⟨levels,order,types,.mk rh rp⟩)=>(List.mem_iff_getElem?.1 hn).elim fun i hi e he hb=>resNds_bare hF hi (e:=e) he hb;have h19:=fun A B=>depths19_spec 2 1 A B (resRoot ⟨levels,order,types,.mk rh rp⟩) hok hnl hsz;have h20:=wrong20_spec levels (leqS ⟨levels,order,types,.mk rh rp⟩) (resNds ⟨levels,order,types,.mk rh rp⟩) (resRoot ⟨levels,order,types,.mk rh rp⟩) h32 hok hnl hsz hbr;have hmk:(∀ i:Nat,i < (resNds ⟨levels,order,types,.mk rh rp⟩).length->(depN (resNds ⟨levels,order,types,.mk rh rp⟩) (resNds ⟨levels,order,types,.mk rh rp⟩).length).getD i 0≠0)->EffOK (leqS ⟨levels,order,types,.mk rh rp⟩) (resNds ⟨levels,order,types,.mk rh rp⟩)->Fine21 ⟨levels,order,types,.mk rh rp⟩:=fun h1 h2=>⟨h0,h1,h2⟩;have hDl:=depN_len (resNds ⟨levels,order,types,.mk rh rp⟩) (resNds ⟨levels,order,types,.mk rh rp⟩).length;generalize depN (resNds ⟨levels,order,types,.mk rh rp⟩) (resNds ⟨levels,order,types,.mk rh rp⟩).length=D at h19 hmk hDl;unfold leqS at h20 hmk;generalize leqN (Sch.mk levels order types (.mk rh rp)).levels.length (numL (nmTx (Sch.mk levels order types (.mk rh rp)).levels) (Sch.mk levels order types (.mk rh rp)).order)=f at hw h20 hmk;generalize resNds ⟨levels,order,types,.mk rh rp⟩=ND at hw h19 h20 hmk hDl hnl hsz hbr hok;generalize resRoot ⟨levels,order,types,.mk rh rp⟩=rt at hw h19 h20;have hdi:=dInts_len D;obtain ⟨R1,R2⟩:=R;simp only at g;subst g;refine call_p en23 (hw) ax rfl ?_;refine call_p en82 (h19 _ _) ax rfl ?_;refine loop_i (fun j st=>∃ e:Nat,st=w21St ⟨levels,order,types,.mk rh rp⟩ 0 R2 (wL levels f ND rt) D e/\e<=D.length/\(∀ i < e,D.getD i 0≠0)/\j=D.length - e) D.length (w21St ⟨levels,order,types,.mk rh rp⟩ 0 R2 (wL levels f ND rt) D 0) (weak_mk ⟨_,rfl⟩ wA rfl rfl rfl wB) ⟨0,rfl,by omega,fun _ h=>by omega,by omega⟩ ?_;rintro j st ⟨e,rfl,he,hno,rfl⟩;refine br (fun hL=>?_) (fun hL=>?_)
 ·have hlt:e < D.length:=by simpa [hdi] using hL
  obtain ⟨x,hx⟩:∃ x,D[e]? = some x:=⟨_,gE hlt⟩;obtain ⟨d,hd⟩:∃ d,ND[e]? = some d:=⟨_,gE (by omega)⟩;refine ⟨_,⟨by omega,dInts_get hx⟩,?_⟩;refine br (fun c=>?_) (fun c=>?_)
  ·refine drawG_s mo (by decide +kernel) ?_;refine ⟨_,⟨by omega,dNds_get hd⟩,?_⟩;exact ⟨.tup [.v (.int .i64 3),Ft.d (11,d.at')],ax,3,(11,d.at'),rfl,fun h=>by simp at h⟩
  ·have c:x≠0:=by simp at c;omega
   exact ⟨w21St ⟨levels,order,types,.mk rh rp⟩ 0 R2 (wL levels f ND rt) D (e + 1),(weak_b 4 rfl (wNA hlt) rfl rfl rfl (wNB hlt)),D.length - (e + 1),by omega,e + 1,rfl,by omega,fun i hi=>by
    rcases Nat.lt_succ_iff_lt_or_eq.1 hi with h1 | h1
    ·exact hno i h1
    ·rw [h1,List.getD_eq_getElem?_getD,hx];exact c,rfl⟩
 ·have hge:e=D.length:=by have:=hL;simp [hdi] at this;omega
  subst hge;refine call_e en341 rfl h20 ax (fun r hr=>?_);obtain ⟨ft,rfl,hft⟩:=hr;refine br (fun c=>?_) (fun c=>?_)
  ·refine drawG_s mo (by decide +kernel) ?_;exact ⟨.tup [.v (.int .i64 4),Ft.d ft],ax,4,ft,rfl,fun h=>by simp at h⟩
  ·have c:ft.1=0:=by simpa using c
   exact ⟨.tup [.v (.int .i64 0),Ft.d (0,0)],ax,0,(0,0),rfl,fun _=>hmk (fun i hi=>hno i (by omega)) (hft c)⟩
theorem fine21_spec (S:Sch) (hS:S.wt<=1099511627776):Ev Tryz.prog 137 [.agg (dSch S)] [] [] (fun r _ _=>∃ b:Bool,r = .v (.bool b)/\(b=true->Fine21 S)):=by
 have hw:=wrong21_spec S hS;obtain ⟨levels,order,types,⟨rh,rp⟩⟩:=S;refine ev_go (P:=Tryz.prog) tt tt_ok 5000 12 [.tmp 2] Tryz.func137 rfl Tryz.ntmps137 rfl (nL rfl) (fun E9 w9 hn9 hm9=>?_);refine call_e en246 rfl hw ax (fun r hr=>?_);obtain ⟨z,ft,rfl,hz⟩:=hr;exact ⟨_,rfl,fun h=>hz (by simpa using h)⟩
end Go.Proofs.YtadbccicdbopcaaGreat
set_option maxRecDepth 100000
namespace Go.Proofs.YtadbccicdbopcaaGreat
open Go Go.RowKit Dv Tryz
end Go.Proofs.YtadbccicdbopcaaGreat
namespace Go.Proofs.YtadbccicdbopcaaGreat
namespace Dv
open Go Go.RowKit
section
variable {P:Program} {ops:Array Oper} {C:World->Prop} {Q:Act->World->Prop} {W:Nat->Bool}
end
section
variable {X:Ctx} {D:Dw}
end
end Dv
end Go.Proofs.YtadbccicdbopcaaGreat
set_option maxRecDepth 100000
namespace Go.Proofs.YtadbccicdbopcaaGreat
open Go Go.RowKit Dv Tryz
theorem under27_spec (lv:List Wd) (f:Nat->Nat->Bool) (ND:List Nd) (z:Int) (hL:LatOK f lv.length) (hn:lv.length<=32) (d:Nd) (e:Ed) (a:Nat) (ha:a < lv.length) (hN:NdOK lv.length ND.length d) (hm:e∈d.edges) :
  EvP Tryz.prog 254 [.agg (wL lv f ND z),.agg (dNd d),.agg (dEd e),.v (.int .i64 a)] (.v (.int .i64 (if d.kind < 7 then a else jnF f lv.length a e.label.toNat:Nat))):=by
 obtain ⟨_,⟨h2,h2'⟩,_⟩:=edge_nums hN hm;obtain ⟨kind,at',lo,hi,most,names,es⟩:=d;obtain ⟨en,eb,ea,et,elb,ew,eck,ecn,ese,eca⟩:=e;simp only at h2 h2';obtain ⟨lb,rfl⟩:∃ n:Nat,elb=n:=⟨_,h2⟩;simp only [Int.toNat_natCast] at h2' ⊢;have hj:=join11_spec lv.length f (by omega) a lb ha h2';rw [joinR_some hL ha h2'] at hj;refine ev_go (P:=Tryz.prog) tt tt_ok 5000 19 [.tmp 8] Tryz.func254 rfl Tryz.ntmps254 rfl (nL rfl) (fun E9 w9 hn9 hm9=>?_);refine br (fun c=>?_) (fun c=>?_)
 ·have c:kind < 7:=by simpa using c
  rw [if_pos c];exact (rfl:_=_)
 ·have c:¬ kind < 7:=by simpa using c
  rw [if_neg c];refine call_p en252 (hj) ax rfl ?_;exact (rfl:_=_)
theorem how27_spec (lv:List Wd) (f:Nat->Nat->Bool) (ND:List Nd) (z:Int) (hL:LatOK f lv.length) (hn:lv.length<=32) (d:Nd) (e:Ed) (obs a:Nat) (ho:obs < lv.length) (ha:a < lv.length) (hN:NdOK lv.length ND.length d) (hm:e∈d.edges) :
  EvP Tryz.prog 253 [.agg (wL lv f ND z),.v (.int .i64 obs),.agg (dNd d),.agg (dEd e),.v (.int .i64 a)] (.v (.int .i64 (howF f lv.length obs d e a:Nat))):=by
 have hu:=under27_spec lv f ND z hL hn d e a ha hN hm;obtain ⟨_,⟨h2,h2'⟩,h3,h3'⟩:=edge_nums hN hm
 have hul:(if d.kind < 7 then a else jnF f lv.length a e.label.toNat) < lv.length:=by
  split
  ·exact ha
  ·exact jnF_lt hL ha h2'
 have hH:howF f lv.length obs d e a=if f (if d.kind < 7 then a else jnF f lv.length a e.label.toNat) obs=true then 2 else if e.ck≠0/\f (jnF f lv.length a e.seen.toNat) obs=true then 1 else 0:=rfl
 generalize howF f lv.length obs d e a=H at hH ⊢;generalize (if d.kind < 7 then a else jnF f lv.length a e.label.toNat)=u at hu hul hH;obtain ⟨kind,at',lo,hi,most,names,es⟩:=d;obtain ⟨en,eb,ea,et,elb,ew,eck,ecn,ese,eca⟩:=e;simp only at h3 h3' hH;obtain ⟨sn,rfl⟩:∃ n:Nat,ese=n:=⟨_,h3⟩;simp only [Int.toNat_natCast] at h3' hH;have hj:=join11_spec lv.length f (by omega) a sn ha h3';rw [joinR_some hL ha h3'] at hj;have hjl:=jnF_lt hL ha h3';refine ev_go (P:=Tryz.prog) tt tt_ok 5000 41 [.tmp 10] Tryz.func253 rfl Tryz.ntmps253 rfl (nL rfl) (fun E9 w9 hn9 hm9=>?_);refine drawG_i (fun _=>false) mo (by decide +kernel) ?_;refine callD_p en254 (hu) ax rfl ?_;refine ⟨_,⟨by omega,mrow_get hul⟩,?_⟩;refine ⟨_,⟨by omega,mcell_get ho⟩,?_⟩;refine br (fun c=>?_) (fun c=>?_)
 ·have c:f u obs=true:=by simpa using c
  rw [if_pos c] at hH;subst hH;exact (rfl:_=_)
 have c:f u obs=false:=by simpa using c
 rw [if_neg (by rw [c];simp)] at hH;refine drawG_i (fun _=>false) mo (by decide +kernel) ?_;refine br (fun g=>?_) (fun g=>?_)
 ·have g:eck≠0:=by simpa using g
  refine callD_p en252 (hj) ax rfl ?_;refine ⟨_,⟨by simp [oz],by simpa [oz] using mrow_get hjl⟩,?_⟩;refine ⟨_,⟨by omega,mcell_get ho⟩,?_⟩;refine br (fun c2=>?_) (fun c2=>?_)
  ·have c2:f (jnF f lv.length a sn) obs=true:=by simpa [pickB] using c2
   rw [if_pos ⟨g,c2⟩] at hH;subst hH;exact (rfl:_=_)
  ·have c2:f (jnF f lv.length a sn) obs=false:=by simpa [pickB] using c2
   rw [if_neg (by rw [c2];simp)] at hH;subst hH;exact (rfl:_=_)
 ·have g:eck=0:=by simpa using g
  rw [if_neg (by simp [g])] at hH;subst hH;exact (rfl:_=_)
end Go.Proofs.YtadbccicdbopcaaGreat
set_option maxRecDepth 100000
namespace Go.Proofs.YtadbccicdbopcaaGreat
open Go Go.RowKit Dv Tryz
end Go.Proofs.YtadbccicdbopcaaGreat
set_option maxRecDepth 100000
namespace Go.Proofs.YtadbccicdbopcaaGreat
open Go Go.RowKit Dv Tryz
theorem kid_rng {d:Nd} {z:Int} {j:Nat} {e:Ed} (h:toR d (.mk 0 z emptyB []) j=e.to) (h0:0<=e.to) (c:d.kind=8):0<=z/\z < d.edges.length:=by
 unfold toR at h;rw [if_neg (by omega),if_neg (by omega),if_neg (by omega),if_pos c] at h;split at h
 ·rename_i g;exact ⟨g.2.1,g.2.2⟩
 ·omega
section
variable {n:Nat} {f:Nat->Nat->Bool} {names:List ByteArray} {LC:List DV} (hR:LatR n f names LC) (PC:List DV)
include hR
end
def stpL (d:Nd) (v:Val):List Stp:=(List.range v.ks.length).map (stpR d v)
theorem stpL_snoc (d:Nd) (v:Val) (e:Nat):dStps ((List.range e).map (stpR d v)) ++ [dStp (stpR d v e)]=dStps ((List.range (e + 1)).map (stpR d v)):=by
 rw [List.range_succ];simp [dStps]
abbrev stsSt (d:Nd) (v:Val) (q e:Nat):St:=
 ⟨[(2,⟨[],.loc 0 0⟩),(3,⟨[],.loc 1 0⟩),(5,⟨[],.sl 3 (dStps ((List.range e).map (stpR d v))) (some 0)⟩),(9,⟨[],.v (.int .i64 (dVals v.ks).length)⟩),(10,⟨[],.v (.int .i64 e)⟩)],[dNd d,dVal v],[⟨q,188,3,none⟩]⟩
theorem steps_spec (d:Nd) (v:Val) (hv:v.wt<=1099511627776) (hk:v.k=d.kind) (h5:5<=d.kind) (hk8:d.kind<=8) (h7:d.kind=7->v.ks.length=d.edges.length) (h8:d.kind=8->0<=v.n/\v.n < d.edges.length) :
  EvP Tryz.prog 218 [.agg (dNd d),.agg (dVal v)] (.sl 3 (dStps (stpL d v)) none):=by
 obtain ⟨kind,at',lo,hi,most,names,es⟩:=d;obtain ⟨q,z,s,ks⟩:=v;have hel:=dEds_len es;have hdl:=dVals_len ks;have hkl:=wtVs_len ks;rw [Val.wt] at hv;simp only [Val.k,Val.n,Val.ks] at hk h5 hk8 h7 h8;subst hk;refine ev_go (P:=Tryz.prog) tt tt_ok 5000 55 [.tmp 4] Tryz.func218 rfl Tryz.ntmps218 rfl (nL rfl) (fun E9 w9 hn9 hm9=>?_);refine loop_i (fun j st=>∃ e:Nat,st=stsSt ⟨q,at',lo,hi,most,names,es⟩ (.mk q z s ks) e e/\e<=ks.length/\j=ks.length - e) ks.length (stsSt ⟨q,at',lo,hi,most,names,es⟩ (.mk q z s ks) 0 0) (weak_bt 2 ⟨0,188,3,none⟩ rfl rfl rfl (by repeat' (first | exact rfl | exact we_rfl rfl | exact we_tok (Nat.le_refl _) rfl | exact we_tok (Nat.le_refl _) rfl | refine ⟨_,_,rfl,?_,?_⟩)) rfl rfl wTB) ⟨0,rfl,by omega,by omega⟩ ?_;rintro j st ⟨e,rfl,he,rfl⟩;refine br (fun hL=>?_) (fun hL=>?_)
 ·have hlt:e < ks.length:=by simpa [hdl,Val.ks] using hL
  have hml:(dStps ((List.range e).map (stpR ⟨q,at',lo,hi,most,names,es⟩ (.mk q z s ks)))).length=e:=by simp [dStps]
  have hsn:=stpL_snoc ⟨q,at',lo,hi,most,names,es⟩ (.mk q z s ks) e
  have hS:stpR ⟨q,at',lo,hi,most,names,es⟩ (.mk q z s ks) e=if q=5 then ⟨2,e,emptyB⟩
   else if q=6 then ⟨4,0,emptyB⟩
   else if q=7 then ⟨1,0,match es[e]? with | some e=>e.name | none=>emptyB⟩
   else ⟨5,0,match es[z.toNat]? with | some e=>e.name | none=>emptyB⟩:=rfl
  refine br (fun c=>?_) (fun c=>?_)
  ·have c:q=7:=by simpa using c
   obtain ⟨x,hx⟩:∃ x,es[e]? = some x:=⟨_,gE (by have:=h7 c;omega)⟩;rw [if_neg (by omega),if_neg (by omega),if_pos c] at hS;simp only [hx] at hS;rw [hS] at hsn;refine ⟨_,⟨by omega,dEds_get hx⟩,?_⟩;refine ⟨hml,⟨by rw [hml];simp [maxLen];omega,by rw [hml];simp;omega⟩,?_⟩;exact ⟨stsSt ⟨q,at',lo,hi,most,names,es⟩ (.mk q z s ks) (e + 1) (e + 1),(weak_b 2 rfl (wSA hlt hsn) rfl rfl rfl (wSB hlt hsn)),ks.length - (e + 1),by omega,e + 1,rfl,by omega,rfl⟩
  have c7:¬ q=7:=by simpa using c
  refine br (fun c=>?_) (fun c=>?_)
  ·have c:q=5:=by simpa using c
   rw [if_pos c] at hS;rw [hS] at hsn;refine ⟨hml,⟨by rw [hml];simp [maxLen];omega,by rw [hml];simp;omega⟩,?_⟩;exact ⟨stsSt ⟨q,at',lo,hi,most,names,es⟩ (.mk q z s ks) (e + 1) (e + 1),(weak_b 2 rfl (wSA hlt hsn) rfl rfl rfl (wSB hlt hsn)),ks.length - (e + 1),by omega,e + 1,rfl,by omega,rfl⟩
  have c5:¬ q=5:=by simpa using c
  refine br (fun c=>?_) (fun c=>?_)
  ·have c:q=6:=by simpa using c
   rw [if_neg c5,if_pos c] at hS;rw [hS] at hsn;refine ⟨hml,⟨by rw [hml];simp [maxLen];omega,by rw [hml];simp;omega⟩,?_⟩;exact ⟨stsSt ⟨q,at',lo,hi,most,names,es⟩ (.mk q z s ks) (e + 1) (e + 1),(weak_b 2 rfl (wSA hlt hsn) rfl rfl rfl (wSB hlt hsn)),ks.length - (e + 1),by omega,e + 1,rfl,by omega,rfl⟩
  have c6:¬ q=6:=by simpa using c
  refine br (fun c=>?_) (fun c=>?_)
  ·have c:q=8:=by simpa using c
   obtain ⟨z0,z1⟩:=h8 c;obtain ⟨x,hx⟩:∃ x,es[z.toNat]? = some x:=⟨_,gE (by omega)⟩;rw [if_neg c5,if_neg c6,if_neg c7] at hS;simp only [hx] at hS;rw [hS] at hsn;refine ⟨_,⟨by omega,dEds_get hx⟩,?_⟩;refine ⟨hml,⟨by rw [hml];simp [maxLen];omega,by rw [hml];simp;omega⟩,?_⟩;exact ⟨stsSt ⟨q,at',lo,hi,most,names,es⟩ (.mk q z s ks) (e + 1) (e + 1),(weak_b 2 rfl (wSA hlt hsn) rfl rfl rfl (wSB hlt hsn)),ks.length - (e + 1),by omega,e + 1,rfl,by omega,rfl⟩
  ·have c:¬ q=8:=by simpa using c
   omega
 ·have hge:e=ks.length:=by
   have:=hL;simp [hdl,Val.ks] at this;omega
  rw [hge];exact ⟨_,ax,rfl⟩
def kidI (d:Nd) (v:Val) (s:Stp):Option Nat:=(List.range v.ks.length).find? fun e=>stpE (stpR d v e) s
def stepV (ND:List Nd) (v:Val) (i:Int) (s:Stp):Option (Nat × Val × Int):=
 match nodeA ND i with
 | none=>none
 | some d=>match kidI d v s with
  | none=>none
  | some e=>match v.ks[e]?,(kidsL d v)[e]? with
   | some x,some j=>some (e,x,j)
   | _,_=>none
def getV (ND:List Nd):List Stp->Val->Int->Option (Val × Int)
 | [],v,i=>some (v,i)
 | s :: p,v,i=>match stepV ND v i s with
  | none=>none
  | some (_,x,j)=>getV ND p x j
def vset (v:Val) (e:Nat) (y:Val):Val:=.mk v.k v.n v.s (v.ks.set e y)
def setV (ND:List Nd):List Stp->Val->Int->Val->Val
 | [],_,_,x=>x
 | s :: p,v,i,x=>match stepV ND v i s with
  | none=>v
  | some (e,y,j)=>vset v e (setV ND p y j x)
theorem find_some {f:Nat->Bool} {n e:Nat} (h:(List.range n).find? f=some e):e < n/\f e=true:=by
 have h1:=List.find?_some h;have h2:=List.mem_of_find?_eq_some h;exact ⟨by simpa using h2,h1⟩
theorem stepV_some {ND:List Nd} {v:Val} {i:Int} {s:Stp} {e:Nat} {x:Val} {j:Int} (h:stepV ND v i s=some (e,x,j)) :
  ∃ d,nodeA ND i=some d/\kidI d v s=some e/\v.ks[e]? = some x/\(kidsL d v)[e]? = some j:=by
 unfold stepV at h;split at h
 ·cases h
 ·rename_i d hd;split at h
  ·cases h
  ·rename_i e' he;split at h
   ·rename_i x' j' hx hj;simp only [oI,Prod.mk.injEq] at h;obtain ⟨rfl,rfl,rfl⟩:=h;exact ⟨d,hd,he,hx,hj⟩
   ·cases h
def kidsM (n:Nd) (k z:Int) (m:Nat):List Int:=
 if n.kind=5∨n.kind=6 then List.replicate m (to0 n)
 else if n.kind=7 then n.edges.map Ed.to
 else match (if k=8/\0<=z/\z < n.edges.length then n.edges[z.toNat]? else none) with | none=>[] | some e=>if e.bare=true then [] else [e.to]
def kidsC (n:Nd) (k z:Int) (s:ByteArray) (m:Nat):Bool:=
 if n.kind=5∨n.kind=6 then (decide (s=emptyB) && (decide (z=0) || decide (k=8))) && decide (k=n.kind) && decide ((m:Int)<=if n.kind=6 then 1 else n.most)
 else if n.kind=7 then (decide (s=emptyB) && (decide (z=0) || decide (k=8))) && decide (k=7) && decide (n.edges.length=m)
 else match (if k=8/\0<=z/\z < n.edges.length then n.edges[z.toNat]? else none) with | none=>false | some _=>(decide (s=emptyB) && (decide (z=0) || decide (k=8))) && decide ((kidsM n k z m).length=m)
theorem vset_kids (d:Nd) (v:Val) (e:Nat) (y:Val):kidsL d (vset v e y)=kidsL d v:=by
 obtain ⟨k,n,s,ks⟩:=v;show kidsM d k n (ks.set e y).length=kidsM d k n ks.length;rw [List.length_set]
theorem vset_kidsB (d:Nd) (v:Val) (e:Nat) (y:Val):kidsB d (vset v e y)=kidsB d v:=by
 obtain ⟨k,n,s,ks⟩:=v;show kidsC d k n s (ks.set e y).length=kidsC d k n s ks.length;rw [List.length_set]
theorem fitVs_set {ND:List Nd} {y:Val} {j:Int} (hy:fitV ND y j=true):∀ {ks:List Val} {l:List Int} {e:Nat},fitVs ND ks l=true->l[e]? = some j->fitVs ND (ks.set e y) l=true
 | [],l,e,_,_=>by simp [fitVs]
 | v :: r,[],e,_,h=>by simp at h
 | v :: r,i :: l,0,h,hj=>by
  simp only [List.getElem?_cons_zero,oI] at hj;subst hj;rw [fitVs,Bool.and_eq_true] at h;rw [List.set_cons_zero,fitVs,hy,h.2];all_goals rfl
 | v :: r,i :: l,e + 1,h,hj=>by
  simp only [List.getElem?_cons_succ] at hj;rw [fitVs,Bool.and_eq_true] at h;rw [List.set_cons_succ,fitVs,h.1,fitVs_set hy h.2 hj];all_goals rfl
section
variable {L:Nat} {ND:List Nd} (hok:∀ n∈ND,NdOK L ND.length n)
include hok
theorem kind5_of {v:Val} {i:Int} {d:Nd} (hF:FitF ND v i d) {e:Nat} {x:Val} (hx:v.ks[e]? = some x):5<=d.kind/\d.kind<=8:=by
 have hN:=hok d (mG (nodeA_some hF.node).2);refine ⟨?_,hN.k8⟩;have h1:=hN.k1;rcases Int.lt_or_le d.kind 5 with h | h
 ·rw [hF.leaf h] at hx;simp at hx
 ·exact h
theorem step_fit {v:Val} {i:Int} (hf:fitV ND v i=true) {s:Stp} {e:Nat} {x:Val} {j:Int} (h:stepV ND v i s=some (e,x,j)):fitV ND x j=true:=by
 obtain ⟨d,hF⟩:=fit_facts hok hf;obtain ⟨d',h1,h2,h3,h4⟩:=stepV_some h;rw [hF.node] at h1;cases h1;exact fitVs_at (hF.kids (kind5_of hok hF h3).1).2 h3 h4
theorem vset_fit {v:Val} {i:Int} (hf:fitV ND v i=true) {s:Stp} {e:Nat} {x y:Val} {j:Int} (h:stepV ND v i s=some (e,x,j)) (hy:fitV ND y j=true):fitV ND (vset v e y) i=true:=by
 obtain ⟨d,hF⟩:=fit_facts hok hf;obtain ⟨d',h1,h2,h3,h4⟩:=stepV_some h;rw [hF.node] at h1;cases h1;have h5:=kind5_of hok hF h3;have hk:=hF.kids h5.1
 have hB:kidsB d v=true:=by
  obtain ⟨k,n,s,ks⟩:=v;rw [fitV,hF.node] at hf;simp only at hf;rw [if_neg (by omega),Bool.and_eq_true] at hf;exact hf.1
 have hn:=hF.node;have e1:=vset_kids d v e y;have e2:=vset_kidsB d v e y;obtain ⟨k,n,s,ks⟩:=v;unfold vset at e1 e2 ⊢;rw [fitV,hn];simp only;rw [if_neg (by omega),e1,e2,hB];simp only [Val.ks,Bool.true_and] at hk ⊢;exact fitVs_set hy hk.2 h4
theorem setV_fit:∀ (p:List Stp) {v:Val} {i:Int},fitV ND v i=true->∀ {x y:Val} {j:Int},getV ND p v i=some (x,j)->fitV ND y j=true->fitV ND (setV ND p v i y) i=true
 | [],v,i,hf,x,y,j,h,hy=>by
  simp only [getV,oI,Prod.mk.injEq] at h;obtain ⟨rfl,rfl⟩:=h;exact hy
 | s :: p,v,i,hf,x,y,j,h,hy=>by
  rw [getV] at h;split at h
  ·cases h
  ·rename_i e z k hs;rw [setV,hs];exact vset_fit hok hf hs (setV_fit p (step_fit hok hf hs) h hy)
end
theorem wtVs_set:∀ {l:List Val} {e:Nat} {x y:Val},l[e]? = some x->wtVs (l.set e y) + x.wt=wtVs l + y.wt
 | [],e,x,y,h=>by simp at h
 | v :: r,0,x,y,h=>by
  simp only [List.getElem?_cons_zero,oI] at h;subst h;simp only [List.set_cons_zero,wtVs];omega
 | v :: r,e + 1,x,y,h=>by
  simp only [List.getElem?_cons_succ] at h;have:=wtVs_set (y:=y) h;simp only [List.set_cons_succ,wtVs];omega
theorem Val.wt_eq (v:Val):v.wt=64 + v.s.size + wtVs v.ks:=by cases v;rw [Val.wt];all_goals rfl
theorem setV_wt {ND:List Nd} {y:Val}:∀ (p:List Stp) {v:Val} {i:Int} {x:Val} {j:Int},getV ND p v i=some (x,j)->(setV ND p v i y).wt<=v.wt + y.wt
 | [],v,i,x,j,h=>by rw [setV];omega
 | s :: p,v,i,x,j,h=>by
  rw [getV] at h;split at h
  ·cases h
  ·rename_i e z k hs;obtain ⟨d,_,_,h3,_⟩:=stepV_some hs;have h1:=setV_wt (y:=y) p h;have h2:=wtVs_set (y:=setV ND p z k y) h3;have h4:=v.wt_eq;have e1:setV ND (s :: p) v i y=vset v e (setV ND p z k y):=by rw [setV,hs]
   have h5:(vset v e (setV ND p z k y)).wt=64 + v.s.size + wtVs (v.ks.set e (setV ND p z k y)):=by rw [vset,Val.wt]
   rw [e1,h5];omega
section
variable {L:Nat} {ND:List Nd} (hok:∀ n∈ND,NdOK L ND.length n)
include hok
end
end Go.Proofs.YtadbccicdbopcaaGreat
namespace Go.Proofs.YtadbccicdbopcaaGreat
namespace Dv
open Go Go.RowKit
mutual
def shD (m:Nat):DV->DV
 | .agg l=>.agg (shL m l)
 | .tup l=>.tup (shL m l)
 | .sl e es tk=>.sl e es (match tk with | some k=>some (m + k) | none=>none)
 | .fn f a b=>.fn f (shL m a) (shL m b)
 | .ifc t x=>.ifc t (shD m x)
 | .v x=>.v x
 | .ud=>.ud
 | .pt cs o=>.pt cs o
 | .loc i o=>.loc i o
 | .el i o=>.el i o
 | .ms i e o l c=>.ms i e o l c
def shL (m:Nat):List DV->List DV
 | []=>[]
 | d :: r=>shD m d :: shL m r
end
mutual
theorem shD_sound {m:Nat} {E2 E:En} (hβ:E2.β=[]) (hc:E.c=E2.c) (ht:∀ (k:Nat) q,E2.tk[k]? = some q->E.tk[m + k]? = some q/\E.τ[m + k]? = E2.τ[k]?):∀ {d:DV} {v:Value},Rv E2 d v->Rv E (shD m d) v
 | .v x,v,h=>by simpa only [Rv,shD] using h
 | .ud,v,h=>by simpa only [Rv,shD] using h
 | .agg l,v,h=>by
  simp only [Rv,shD] at h ⊢;obtain ⟨vs,h1,h2,h3⟩:=h;exact ⟨vs,h1,shL_sound hβ hc ht h2,h3⟩
 | .tup l,v,h=>by
  simp only [Rv,shD] at h ⊢;obtain ⟨vs,h1,h2⟩:=h;exact ⟨vs,h1,shL_sound hβ hc ht h2⟩
 | .sl e es tk,v,h=>by
  have he:E.cl=E2.cl:=by simp [En.cl,hc]
  simp only [Rv,shD] at h ⊢;obtain ⟨b,n,cap,h1,h2,h3,h4⟩:=h;refine ⟨b,n,cap,h1,h2,fun hn=>⟨(h3 hn).1,by rw [he];exact (h3 hn).2⟩,?_⟩;intro k' hk'
  cases tk with
  | none=>cases hk'
  | some k=>
   simp only [oI] at hk';subst hk';obtain ⟨q,g1,g2,g3⟩:=h4 k rfl;obtain ⟨g4,g5⟩:=ht k q g1;exact ⟨q,g4,g2,fun hn=>by rw [g5];exact g3 hn⟩
 | .pt cs off,v,h=>by
  have he:E.cl=E2.cl:=by simp [En.cl,hc]
  simp only [Rv,shD] at h ⊢;rw [he];exact h
 | .loc i off,v,h=>by
  simp only [Rv] at h;obtain ⟨b,h1,_⟩:=h;rw [hβ] at h1;simp at h1
 | .el i off,v,h=>by
  simp only [Rv] at h;obtain ⟨b,h1,_⟩:=h;rw [hβ] at h1;simp at h1
 | .ms i e off len cap,v,h=>by
  simp only [Rv] at h;obtain ⟨b,_,h1,_⟩:=h;rw [hβ] at h1;simp at h1
 | .fn f a b,v,h=>by
  simp only [Rv,shD] at h ⊢;obtain ⟨l,r,h1,h2,h3⟩:=h;exact ⟨l,r,h1,shL_sound hβ hc ht h2,shL_sound hβ hc ht h3⟩
 | .ifc t x,v,h=>by
  simp only [Rv,shD] at h ⊢;obtain ⟨z,h1,h2⟩:=h;exact ⟨z,h1,shD_sound hβ hc ht h2⟩
theorem shL_sound {m:Nat} {E2 E:En} (hβ:E2.β=[]) (hc:E.c=E2.c) (ht:∀ (k:Nat) q,E2.tk[k]? = some q->E.tk[m + k]? = some q/\E.τ[m + k]? = E2.τ[k]?):∀ {l:List DV} {vs:List Value},RvL E2 l vs->RvL E (shL m l) vs
 | [],vs,h=>by simpa only [RvL,shL] using h
 | d :: r,vs,h=>by
  simp only [RvL,shL] at h ⊢;obtain ⟨v,s,h1,h2,h3⟩:=h;exact ⟨v,s,h1,shD_sound hβ hc ht h2,shL_sound hβ hc ht h3⟩
end
section
variable {X:Ctx} {st:St} {k:List It} {E:En} {a:Act} {w:World}
theorem quiet_relF (h:Rel X E st a w) (hst:X.still=false) {E2:En} {w':World} (hm:Modd (E.cl).S w w') (he:Env E2 [] w') (hn:Nw E.cl E2 w):Rel X ⟨E2.c,E.β,E.tk ++ E2.tk,E.τ ++ E2.τ⟩ ⟨st.sl,st.bx,st.tk ++ E2.tk⟩ a w':=by
 have hq:=quiet_rel h hst hm he hn;have hfr:∀ (j:Nat) y g,E2.τ[j]? = some y->y.ownBlock=some g->w.heap.size<=g:=fun j y g hy hg=>hn.tn j y g (Nat.zero_le _) hy hg;have hold:∀ (k:Nat) y g,E.τ[k]? = some y->y.ownBlock=some g->g < w.heap.size:=fun k y g hy hg=>(h.env.own (mG hy) hg).1;have htl:E.τ.length=E.tk.length:=h.env.tl
 have hτ:∀ (k:Nat) y,(E.τ ++ E2.τ)[k]? = some y->(k < E.τ.length/\E.τ[k]? = some y)∨(E.τ.length<=k/\E2.τ[k - E.τ.length]? = some y):=fun k y hy=>by
  rw [List.getElem?_append] at hy;split at hy
  ·rename_i hk;exact .inl ⟨hk,hy⟩
  ·rename_i hk;exact .inr ⟨by omega,hy⟩
 have hx:Ext ⟨E2.c,E.β,E.tk,E.τ⟩ ⟨E2.c,E.β,E.tk ++ E2.tk,E.τ ++ E2.τ⟩:=⟨fun _ _ h=>h,fun _ _ h=>h,fun j q hj=>by
  have hj:E.tk[j]? = some q:=hj;have hlt:=(gS hj).1;refine ⟨q,by show (E.tk ++ _)[j]? = _;rw [List.getElem?_append_left hlt];exact hj,.inl ⟨rfl,?_⟩⟩;show (E.τ ++ _)[j]? = _
  rw [List.getElem?_append_left (by rw [htl];exact hlt)]⟩
 refine rel_env hq hx ?_ (by show E.tk ++ _=_;rw [h.tk]) ?_ hq.fr (noSt hst) hq.bt
 ·exact {
   len:=h.env.len
   tl:=by show (E.τ ++ _).length=(E.tk ++ _).length;simp [htl,he.tl]
   bxs:=fun i cs hi=>by
    obtain ⟨b,t,arr,hb,hw,hc⟩:=hq.env.bxs i cs hi;exact ⟨b,t,arr,hb,hw,hc.mono hx⟩
   inj:=h.env.inj
   sub:=he.sub
   pc:=hq.env.pc
   tks:=fun j q y hqj hy=>by
    have hqj:(E.tk ++ E2.tk)[j]? = some q:=hqj;rcases hτ j y hy with ⟨hlt,hy'⟩ | ⟨hle,hy'⟩
    ·rw [List.getElem?_append_left (by rw [<- htl];exact hlt)] at hqj;exact hq.env.tks j q y hqj hy'
    ·rw [List.getElem?_append_right (by rw [<- htl];exact hle),<- htl] at hqj;rcases he.tks _ q y hqj hy' with h1 | ⟨g,cap,cur,rfl,h1,h2,h3,h4,_,h6⟩
     ·exact .inl h1
     ·refine .inr ⟨g,cap,cur,rfl,h1,h2,h3,h4,fun hm'=>?_,h6⟩;have:=hfr _ _ g hy' rfl;have:=h.env.block_lt hm';omega
   tkd:=fun i j y y' g hij hy hy' hg hg'=>by
    rcases hτ i y hy with ⟨_,h1⟩ | ⟨h0,h1⟩
    ·rcases hτ j y' hy' with ⟨_,h2⟩ | ⟨_,h2⟩
     ·exact h.env.tkd i j y y' g hij h1 h2 hg hg'
     ·have:=hold i y g h1 hg;have:=hfr _ y' g h2 hg';omega
    ·rcases hτ j y' hy' with ⟨_,h2⟩ | ⟨h00,h2⟩
     ·have:=hold j y' g h2 hg';have:=hfr _ y g h1 hg;omega
     ·exact he.tkd _ _ y y' g (by omega) h1 h2 hg hg' }
 ·exact {
   c:=hq.nw.c
   cn:=hq.nw.cn
   β:=h.nw.β
   tk:=fun j q0 y0 hq0 hy0=>by
    obtain ⟨q',y',h1,h2,h3⟩:=h.nw.tk j q0 y0 hq0 hy0;exact ⟨q',y',by show (E.tk ++ _)[j]? = _;rw [List.getElem?_append_left (gS h1).1];exact h1,by show (E.τ ++ _)[j]? = _;rw [List.getElem?_append_left (gS h2).1];exact h2,h3⟩
   tn:=fun j y g hj hy hg=>by
    rcases hτ j y hy with ⟨_,h1⟩ | ⟨_,h1⟩
    ·exact h.nw.tn j y g hj h1 hg
    ·exact Nat.le_trans h.fr.size (hfr _ y g h1 hg)
   l0:=h.nw.l0 }
theorem calls_f {P:Program} (h:Rel X E st a w) (hst:X.still=false) {f:FuncId} {args args':List DV} {vs:List Value} {Φ:DV->List (List DV)->List TkE->Prop} (hc:EvF P f args' [] [] Φ) (ha:CcL [] 0 0 0 args' args) (hv:RvL E args vs) :
  Calls P f vs.toArray w fun e w'=>∃ v E' d tks,e = .returned v/\Rel X E' ⟨st.sl,st.bx,st.tk ++ tks⟩ a w' /\ Rv E' (shD st.tk.length d) v/\Φ d [] tks/\Modd E.cl.S w w' /\ Ext E E' /\ E'.β=E.β:=by
 have hv':RvL E.cl args' vs:=CcL.sound (E:=E) (E':=E.cl) ⟨fun _ _ h=>h,fun i cs _ hi=>by simp at hi⟩ (Low.zero _ _) ha hv;refine (hc E.cl w vs (env_cl h.env) rfl hv').mono ?_;rintro e w' ⟨v,rfl,hm,_,d,os,E2,he,hβ,_,hn,hvd,hΦ⟩;have hβ:E2.β=[]:=hβ
 have hos:os=[]:=by
  have:=he.len;rw [hβ] at this;exact List.eq_nil_of_length_eq_zero this.symm
 subst hos;have htl:E.τ.length=E.tk.length:=h.env.tl
 have hx:Ext E ⟨E2.c,E.β,E.tk ++ E2.tk,E.τ ++ E2.τ⟩:=⟨hn.c,fun _ _ h=>h,fun j q hj=>by
  have hlt:=(gS hj).1;refine ⟨q,by show (E.tk ++ _)[j]? = _;rw [List.getElem?_append_left hlt];exact hj,.inl ⟨rfl,?_⟩⟩;show (E.τ ++ _)[j]? = _
  rw [List.getElem?_append_left (by rw [htl];exact hlt)]⟩
 refine ⟨v,_,d,E2.tk,rfl,quiet_relF h hst hm he hn,shD_sound (E2:=E2) (E:=⟨E2.c,E.β,E.tk ++ E2.tk,E.τ ++ E2.τ⟩) (m:=st.tk.length) hβ rfl (fun k q hq=>?_) hvd,hΦ,hm,hx,rfl⟩;rw [<- h.tk];constructor
 ·show (E.tk ++ E2.tk)[_]? = _;rw [List.getElem?_append_right (by omega)];simpa using hq
 ·show (E.τ ++ E2.τ)[_]? = _;rw [List.getElem?_append_right (by omega),htl];simp
theorem call_f {f:FuncId} {args args':List DV} {d:Nat} (hen:Enters X.P f) (hd:okD X.nt st.sl (some d)=true) {Φ:DV->List (List DV)->List TkE->Prop} (hc:EvF X.P f args' [] [] Φ) (ha:CcL [] 0 0 0 args' args)
  (hk:∀ r tks,Φ r [] tks->go X 4000 k ⟨(d,⟨[],shD st.tk.length r⟩) :: st.sl,st.bx,st.tk ++ tks⟩) (hst:X.still=false:=by exact rfl):CallG X f args (some d) k st:=by
 refine ⟨hen,hst,fun E a w vs h hv=>(calls_f h hst hc ha hv).mono ?_⟩;rintro e w' ⟨v,E',r,tks,rfl,hrel,hr,hΦ,_⟩;exact go_sound 4000 _ _ (hk r tks hΦ) E' _ w' (put_rel hrel hd _ v hr)
theorem callD_f {D:Dr} {c:Bool} {i:Nat} {s0:List (Nat × Sl)} {f:FuncId} {args args':List DV} {d:Nat} {r:List (Nat × Oper)} (hen:Enters X.P f) (hd:(okD X.nt st.sl (some d) && okD X.nt s0 (some d))=true) {Φ:DV->List (List DV)->List TkE->Prop} (hc:EvF X.P f args' [] [] Φ) (ha:CcL [] 0 0 0 args' args)
  (hk:∀ res tks,Φ res [] tks->put2 s0 ⟨st.sl,st.bx,st.tk ++ tks⟩ (some d) false [] (shD st.tk.length res) (goD X D 3000 c r)) (hst:X.still=false:=by exact rfl):CallD X D c i r f args (some d) s0 st:=by
 refine ⟨hen,fun hl E0 wr hD E a w vs h hv=>(calls_f h.rel hst hc ha hv).mono ?_⟩;rintro e w' ⟨v,E',res,tks,rfl,hrel,hr,hΦ,hm,hx,hβ⟩
 have hh:∀ b,b < w.heap.size->w'.heap[b]? = w.heap[b]?:=fun b hb=>hm.block b hb (by
  rintro (h1 | ⟨y,h1,_⟩)
  ·simp [En.cl] at h1
  ·simp [En.cl] at h1)
 have hs:Stp none E w E' w':=⟨hx,⟨[],by rw [hβ];simp⟩,fun j b hb _=>hh b (h.rel.env.block_lt (mG hb))⟩;have hC:=stp_C h hs hrel (fun j hj=>by cases hj);refine ⟨v,rfl,fun _=>hC,?_⟩;have hrelD:RelD X ⟨D,E0,wr⟩ c E' s0 ⟨st.sl,st.bx,st.tk ++ tks⟩ (a.put none v) w':=stp_relD h hs hrel (fun h1=>hC (h.cc h1)) (fun i x hx=>.inr ⟨hx,fun d hd=>by cases hd⟩) rfl;obtain ⟨s1,st1,hk1,hrel1⟩:=put2_rel hrelD hd false [] _ v (fun _ _ p hp=>by cases hp) (fun _=>hr) (fun hb=>by cases hb) (fun hn=>(hn (holds_nil _)).elim) (hk res tks hΦ);exact goD_sound (D:=⟨D,E0,wr⟩) hD 3000 c r _ _ hk1 hl E' _ w' hrel1
end
end Dv
end Go.Proofs.YtadbccicdbopcaaGreat
namespace Go.Proofs.YtadbccicdbopcaaGreat
namespace Dv
open Go Go.RowKit
section
variable {X:Ctx} {st:St} {k:List It} {E:En} {a:Act} {w:World}
theorem own_row (h:Rel X E st a w) {es:List (List DV)} {cs:List DV} {kt m ety e:Nat} {v:Value} (hv:Rv E (.sl 0 es (some kt)) v) (hq:st.tk[kt]? = some ⟨m,ety,e,some cs⟩) (hes:es.length=m) (hm:0 < m) :
  ∃ g cap,∃ cur:Array Value,v = .slice (some ⟨g,0,none⟩) m cap/\E.tk[kt]? = some ⟨m,ety,e,some cs⟩/\E.τ[kt]? = some v/\w.heap[g]? = some (.cells cur ety (0,0))/\cur.size=cap * e/\cs.length=m * e/\RvC E.cl cs (cur.toList.take (m * e))/\m<=cap/\cap<=maxLen/\g ∉ E.β/\∀ x u,E.c x=some u->x.block=g->x.off < 0:=by
 unfold Rv at hv;obtain ⟨bs,ns,caps,e1,⟨hns,hsc⟩,hsr,hstk⟩:=hv;subst hns;obtain ⟨q',hq',_,hτk⟩:=hstk kt rfl;have hq2:E.tk[kt]? = some ⟨m,ety,e,some cs⟩:=by rw [h.tk];exact hq
 rw [hq2] at hq';simp only [oI] at hq';subst hq';have hy:=hτk hes;rcases h.env.tks kt _ _ hq2 hy with ⟨_,hn0,_⟩ | ⟨g,cap,cur,hv0,hw0,⟨hs0,hown0⟩,hnc0,hcm0,hb0,hc0⟩
 ·simp only at hn0;omega
 obtain ⟨h5,h6⟩:=hown0 cs rfl;exact ⟨g,cap,cur,hv0,hq2,hy,hw0,hs0,h5,h6,hnc0,hcm0,hb0,hc0⟩
theorem own_idx {o1:Oper} {t et e by' nn m g cap:Nat} {bb:Bool} {zz:List Value} {z:Int} {kd:IntKind} {s ix:Operand} (h1:o1.op = .indexAddr t s ix) (e1:a.eval s = .slice (some ⟨g,0,none⟩) m cap) (e2:a.eval ix = .int kd z)
  (hT:X.T.find t=some ⟨nn,bb,.sl et e by',zz⟩) (hz:0<=z/\z < m) (w:World):(execOp a.eval o1).run X.P w = .ok (.value (.pointer (some ⟨g,z.toNat * e,none⟩))) w:=by
 obtain ⟨hu,ii,zv,hi2,_,hsz2,_,_⟩:=und_sl X.hT hT;have hsz':szOf X.P et=some e:=by rw [size_of_info hi2,hsz2]
 have hrun:(Instr.indexAt t (.slice (some ⟨g,0,none⟩) m cap) (.int kd z)).run X.P w = .ok (.pointer (some ⟨g,z.toNat * e,none⟩)) w:=by
  simp [Instr.indexAt,asIntOf,run_underlying hu,hz.1,hz.2,run_sizeOf' hsz',Addr.add_lit]
 simp only [execOp,h1,e1,e2,Sem.run_bind,hrun,Result.andThen_ok,Sem.run_pure]
theorem own_sto {o2:Oper} {d1 kt ty e m ety:Nat} {z:Int} {es:List (List DV)} {cs cs':List DV} {v:Value} {x:Operand} {dv:DV} {g cap:Nat}
  (hr1:Rel X E st a w) (h2:o2.op = .store ty (.tmp d1) x) (ht1:a.eval (.tmp d1) = .pointer (some ⟨g,z.toNat * e,none⟩)) (hv:Rv E (.sl 0 es (some kt)) v) (hvg:v = .slice (some ⟨g,0,none⟩) m cap)
  (hx:rv st [] x=some dv) (hdv:eraL dv.cells (fun l=>some l)=some cs') (hdc:dv.cells.length=e) (he0:0 < e)
  (hsz:X.T.sz ty=some e) (hq:st.tk[kt]? = some ⟨m,ety,e,some cs⟩) (hes:es.length=m) (hz:0<=z/\z < m) (hst:X.still=false) :
  ∃ w' E',(execOp a.eval o2).run X.P w = .ok .skip w' /\ Rel X E' ⟨st.sl,st.bx,st.tk.set kt ⟨m,ety,e,some (cs.take (z.toNat * e) ++ cs' ++ cs.drop (z.toNat * e + e))⟩⟩ a w':=by
 obtain ⟨g',caps,cur,e1,hq2,hy,hw0,hs0,h5,h6,hnc0,hcm0,hb0,hc0⟩:=own_row hr1 hv hq hes (by omega);rw [hvg] at e1;injection e1 with i1 i2 i3
 injection i1 with i1
 injection i1 with i1
 subst i1 i3;rw [hvg] at hy;have e3:=sl_val hr1.rl hx;have hcl:RvC E dv.cells (a.eval x).cells.toList:=e3.cells (fills_len (n:=e) hdc (by omega));have hvl:(a.eval x).cells.toList.length=e:=by rw [hcl.1.length];exact hdc
 obtain ⟨l',hl1,hx1,_⟩:=eraL_sound hdv hcl;simp only [oI] at hl1;rw [hl1] at hx1;have hme:m * e<=cap * e:=Nat.mul_le_mul_right _ hnc0
 have hpos:z.toNat * e + e<=m * e:=by
  have:(z.toNat + 1) * e<=m * e:=Nat.mul_le_mul_right _ (by omega);rw [Nat.add_mul] at this;omega
 have hcurl:cur.toList.length=cap * e:=by simpa using hs0
 have hsv:=storeVar_blk (P:=X.P) (t:=ty) (off:=z.toNat * e) (n:=e) hw0 (sz_ok X.hT hsz) hvl (by rw [hs0];omega) (List.all_eq_true.2 hcl.2);generalize hN:cur.toList.take (z.toNat * e) ++ (a.eval x).cells.toList ++ cur.toList.drop (z.toNat * e + e)=N at hsv
 have hNl:N.length=cap * e:=by
  subst hN;simp only [List.length_append,List.length_take,List.length_drop,hvl,hcurl];omega
 have hNt:N.take (m * e)=(cur.toList.take (m * e)).take (z.toNat * e) ++ (a.eval x).cells.toList ++ (cur.toList.take (m * e)).drop (z.toNat * e + e):=by
  subst hN;rw [List.take_append,List.take_append,List.take_take,List.take_take];have h1:(cur.toList.take (z.toNat * e)).length=z.toNat * e:=by rw [List.length_take];omega
  rw [List.length_append,h1,hvl,Nat.min_eq_right (by omega),Nat.min_eq_left (by omega),List.take_of_length_le (l:=(a.eval x).cells.toList) (by rw [hvl];omega),List.drop_take]
 have hat:TkAt (World.setBlk w g (.cells N.toArray ety (0,0))) E.c E.β ⟨m,ety,e,some (cs.take (z.toNat * e) ++ cs' ++ cs.drop (z.toNat * e + e))⟩ (.slice (some ⟨g,0,none⟩) m cap):=by
  refine .inr ⟨g,cap,_,rfl,setBlk_same hw0,⟨by simpa using hNl,fun cs2 hc'=>?_⟩,hnc0,hcm0,hb0,hc0⟩;simp only [oI] at hc';subst hc';simp only;have h8:=((RvC.take (z.toNat * e) h6).append hx1).append (RvC.drop (z.toNat * e + e) h6);rw [<- hNt] at h8;have hl8:=h8.1.length;refine ⟨?_,by show RvC E.cl _ (N.toArray.toList.take (m * e));simpa using h8⟩;rw [<- hl8,List.length_take,hNl];omega
 obtain ⟨hrel,_⟩:=own_rel (q':=⟨m,ety,e,some (cs.take (z.toNat * e) ++ cs' ++ cs.drop (z.toNat * e + e))⟩) (w':=World.setBlk w g (.cells N.toArray ety (0,0))) hr1 hst hq2 hy rfl rfl rfl (.inl ⟨rfl,rfl⟩) hat (.inl rfl) rfl rfl rfl (by rw [setBlk_size];exact Nat.le_refl _) (fun j _ hne=>setBlk_other (by
  rintro rfl
  exact hne rfl))
 refine ⟨_,_,?_,hrel⟩;simp only [execOp,h2,ht1,Instr.storeAt,Instr.sureAddr,Sem.run_bind,Sem.run_pure,Result.andThen_ok,hsv]
theorem callD_own {D:Dr} {c:Bool} {i i1 i2:Nat} {s0:List (Nat × Sl)} {o1 o2:Oper} {f:FuncId} {args args':List DV} {d d1 kt t ty et e by' m ety nn:Nat} {bb:Bool} {zz:List Value} {z:Int} {kd:IntKind} {es:List (List DV)} {cs cs':List DV} {s ix x:Operand} {res dv:DV}
  (hen:Enters X.P f) (hd:okD X.nt st.sl (some d)=true) (hc:EvP X.P f args' res) (ha:CcL [] 0 0 0 args' args)
  (h1:o1.op = .indexAddr t s ix/\o1.dst=some d1/\o1.guard=none) (h2:o2.op = .store ty (.tmp d1) x/\o2.dst=none/\o2.guard=none) (hd1:okD X.nt ((d,⟨[],res⟩) :: st.sl) (some d1)=true)
  (hs:rv ⟨(d,⟨[],res⟩) :: st.sl,st.bx,st.tk⟩ [] s=some (.sl 0 es (some kt))) (hi:rv ⟨(d,⟨[],res⟩) :: st.sl,st.bx,st.tk⟩ [] ix=some (.v (.int kd z)))
  (hx:rv ⟨(d1,⟨[],.pt [] 0⟩) :: (d,⟨[],res⟩) :: st.sl,st.bx,st.tk⟩ [] x=some dv) (hdv:eraL dv.cells (fun l=>some l)=some cs') (hdc:dv.cells.length=e) (he0:0 < e)
  (hT:X.T.find t=some ⟨nn,bb,.sl et e by',zz⟩) (hsz:X.T.sz ty=some e) (hq:st.tk[kt]? = some ⟨m,ety,e,some cs⟩) (hes:es.length=m) (hz:0<=z/\z < m) (hW2:D.W i2=true)
  (hk:∃ st2,Wk X ⟨(d1,⟨[],.pt [] 0⟩) :: (d,⟨[],res⟩) :: st.sl,st.bx,st.tk.set kt ⟨m,ety,e,some (cs.take (z.toNat * e) ++ cs' ++ cs.drop (z.toNat * e + e))⟩⟩ st2/\go X 4000 D.k st2)
  (hst:X.still=false:=by exact rfl) (hf:D.fin=none:=by exact rfl):CallD X D c i [(i1,o1),(i2,o2)] f args (some d) s0 st:=by
 refine ⟨hen,fun hl E0 wr hD E a w vs h hv=>(calls_quiet h.rel hst hc ha hv).mono ?_⟩;rintro e9 w' ⟨v,E',r,rfl,hrel,hr,rfl,hm9,hx9,hβ9⟩
 have hh9:∀ b,b < w.heap.size->w'.heap[b]? = w.heap[b]?:=fun b hb=>hm9.block b hb (by
  rintro (h1 | ⟨y,h1,_⟩)
  ·simp [En.cl] at h1
  ·simp [En.cl] at h1)
 have hs9:Stp none E w E' w':=⟨hx9,⟨[],by rw [hβ9];simp⟩,fun j b hb _=>hh9 b (h.rel.env.block_lt (mG hb))⟩;refine ⟨v,rfl,(fun _=>stp_C h hs9 hrel (fun j hj=>by cases hj)),?_⟩;have hr0:=put_rel hrel hd r v hr;generalize ha0:a.put (some d) v=a0 at hr0;have hrl:=hr0.rl;have e2:=rv_int_eq (sl_val hrl hi);have hv:=sl_val hrl hs;obtain ⟨g,cap,cur,e1,_⟩:=own_row hr0 hv hq hes (by omega);have hE1:isE o1.op=false:=by rw [h1.1];all_goals rfl
 have hL1:isL o1.op=false:=by rw [h1.1];all_goals rfl
 have hE2:isE o2.op=true:=by rw [h2.1];all_goals rfl
 have g1:D.ops[i1]? = some o1:=hl (i1,o1) (by simp);have g2:D.ops[i2]? = some o2:=hl (i2,o2) (by simp);show runT X.P D.ops D.W _ (Dw.Q ⟨D,E0,wr⟩ X) [i1,i2] a0 w';have hr1:Rel X E' ⟨(d1,⟨[],.pt [] 0⟩) :: (d,⟨[],r⟩) :: st.sl,st.bx,st.tk⟩ (a0.put (some d1) (.pointer (some ⟨g,z.toNat * e,none⟩))) w':=put_rel hr0 hd1 (.pt [] 0) _ (by unfold Rv;exact ⟨g,z.toNat * e,rfl,by simp only [RvAt]⟩)
 have ht1:(a0.put (some d1) (.pointer (some ⟨g,z.toNat * e,none⟩))).eval (.tmp d1) = .pointer (some ⟨g,z.toNat * e,none⟩):=by
  simp only [okD,Bool.and_eq_true,Nat.blt_eq] at hd1;simp [Act.eval,Act.put,hr0.sz,hd1.1]
 simp only [runT,g1,hE1,Bool.false_eq_true,if_false];refine ⟨.pointer (some ⟨g,z.toNat * e,none⟩),.inl ⟨wanted_none h1.2.2,fun w9 _=>own_idx h1.1 e1 e2 hT hz w9⟩,fun h9=>(by rw [hL1] at h9;cases h9),?_⟩;rw [h1.2.1];generalize a0.put (some d1) (.pointer (some ⟨g,z.toNat * e,none⟩))=a1 at hr1 ht1;have hwn:=wanted_none (ops:=D.ops) (a:=a1) h2.2.2;simp only [g2,hE2,if_true,stepX,hwn];obtain ⟨w2,E2,hrun,hrel2⟩:=own_sto hr1 h2.1 ht1 hv e1 hx hdv hdc he0 hsz hq hes hz hst;refine wq_unit hrun ?_;rw [h2.2.1];refine ⟨(fun hw=>by rw [hW2] at hw;cases hw),?_⟩;obtain ⟨st2,hwk,hgo⟩:=hk;obtain ⟨E3,hr3⟩:=hwk _ _ _ hrel2;show Dw.Q ⟨D,E0,wr⟩ X _ _;unfold Dw.Q;simp only [hf];exact go_sound 4000 _ _ hgo _ _ _ hr3
end
end Dv
end Go.Proofs.YtadbccicdbopcaaGreat
