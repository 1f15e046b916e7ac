/- Part 5 of the proof: resolve.Build; Reading a plan: Len, Root, Lattice, Node, Find; slices.Clone; of no plan as well; The reference of chapter 17: Great, Same; The program's comparing of schemas; The law's example: a type that leads to itself; The law of no plan: the call returns true; The document's relations: Leads; The document's lattices: Find, pairs, Leq, Loop; The document's lattices: what is wrong; The document's labels: over, Least, Of; The document's schemas: Find, word, all, Flat, End, Start; The document's schemas: Flat, End, Start; The document's schemas: named, unknown; The reference's Wrong returns what is wrong with a type; The document's schemas: what is wrong; The document's nodes: Same, of equal ones; the law's node; The document's nodes: node; The document's plan: Build; What is known of a type with which nothing is wrong; labels have levels; What is known of the nodes of a plan; The least depths of the values of a plan's nodes: plain; Which nodes have several values: plain; How many unlike values nodes have: plain, as the document counts; A plan, as its readers know it. No condition. -/
import Derived.Test.YtadbccicdbopcaaGreatMg3
import Derived.Test.YtadbccicdbopcaaGreatMg4
set_option linter.all false
set_option maxRecDepth 100000
namespace Go.Proofs.YtadbccicdbopcaaGreat
open Go Go.RowKit Dv Tryz
abbrev bldSt (s:Sch) (ord:List Nat) (lc:List DV) (m:Int) (f1 f2:Int) (n:Nat) (base:List DV) (e:Nat):St:=
 ⟨[(1,⟨[],.loc 4 0⟩),(3,⟨[],.loc 3 0⟩),(6,⟨[],.loc 0 0⟩),(59,⟨[],.sl 11 (dNms s.types) none⟩),(60,⟨[],.v (.int .i64 (dNms s.types).length)⟩),(61,⟨[],.v (.int .i64 e)⟩)],
  [bC s (.pt lc 0) (.loc 1 0) m,pCn s ord lc n,[.v (.int .i64 f1),.v (.int .i64 f2)],[.v (.int .i64 0),.v (.int .i64 0)],dSch s],[rowN n base]⟩
theorem build_spec (s:Sch) (hs:s.wt<=1099511627776):Ev Tryz.prog 21 [.agg (dSch s)] [] [] (ResΦ s):=by
 have hF:=resF.eq_1 s;have hw:=hs;simp only [Sch.wt] at hw;have hwl:=wdsWt_len s.levels;have hwn:=nmsWt_len s.types;have hlb:=lbuild_spec s.levels s.order (by omega) (by omega);have hcal:=fun lc=>bcalled_spec s lc (by omega)
 have hbig:∀ t,(t=s.root∨∃ x∈s.types,t=x.2)->t.wt<=1099511627776:=fun t ht=>by
  rcases ht with rfl | ⟨x,hx,rfl⟩
  ·omega
  ·have:=nmsWt_mem hx;omega
 have heaR:=fun lc ord=>eachR_spec s lc ord 0 (by omega) (by omega) (by omega) hbig;have heaL:=fun (X:Lx) (hX:X.OK) (ord:List Nat) (hT:TblOK (tL s) ord) (hol:ord.length<=1099511627776) (m:Int)=>each_spec s X.pd (pC0 s ord (dLs X.names (dTbl X.names X.ord) X.rows X.js)) m (by omega) 78 en78 (knT X (tL s)) (fun t ht=>known_spec hX s ord (.pt (dLs X.names (dTbl X.names X.ord) X.rows X.js) 0) (.v (.slice none 0 0)) (.v (.int .i64 0)) (.v (.slice none 0 0)) m hT hol t.wt t (Nat.le_refl _) (hbig t ht))
 have hnamed:(namedF s).1=0->s.types.length<=64:=fun h=>by
  unfold namedF at h;split at h
  ·cases h
  ·omega
 have hLx:=fun d h hd=>@lxOf_ok s d h hd (by omega);have hloop:=fun (lat:DV) (ord:List Nat) (a b c e0:DV) (m:Int)=>loops_spec s lat ord a b c e0 m;have hplace:=fun (lc:List DV) (ord:List Nat) (m:Int)=>places_spec s lc ord m;have hnode:=fun (X:Lx) (hX:X.OK) (ord:List Nat) (m:Int) (hT:TblOK (tL s) ord) (hol:ord.length<=1099511627776) (t:Ty) (ht:t.wt<=1099511627776)=>node_spec hX s ord m hT hol t.wt t (Nat.le_refl _) ht;refine ev_go (P:=Tryz.prog) tt tt_ok 5000 85 [.tmp 2,.cell 3 46] Tryz.func21 rfl Tryz.ntmps21 rfl (nL rfl) (fun E9 w9 hn9 hm9=>?_);generalize hS:s=S at *;obtain ⟨levels,order,types,⟨rh,rp⟩⟩:=s;subst hS;refine call_e en74 rfl hlb ax (fun r hr=>?_);by_cases hL:(latF levels order).1≠0
 ·have hL':=hL;rw [if_pos (show (latF (Sch.mk levels order types (.mk rh rp)).levels (Sch.mk levels order types (.mk rh rp)).order).1≠0 from hL)] at hF;unfold LatΦ at hr;rw [if_pos (show (latF (Sch.mk levels order types (.mk rh rp)).levels (Sch.mk levels order types (.mk rh rp)).order).1≠0 from hL)] at hr;subst hr;refine br (fun h=>?_) (fun h=>?_)
  ·refine drawG_s mo (by decide +kernel) ?_;exact ⟨_,ax,resΦ_bad (os:=[]) (tk:=[]) hF hL⟩
  ·exfalso;simp at h;exact hL h
 unfold LatΦ at hr;rw [if_neg (show ¬ (latF (Sch.mk levels order types (.mk rh rp)).levels (Sch.mk levels order types (.mk rh rp)).order).1≠0 from hL)] at hF hr;obtain ⟨d,hd,rfl⟩:=hr;have hL0:(latF levels order).1=0:=by simpa using hL
 obtain ⟨ord,js,hX,rfl⟩:=hLx d hL0 hd;generalize hXX:lxOf ⟨levels,order,types,.mk rh rp⟩ ord js=X at hX;refine br (fun h=>?_) (fun _=>?_)
 ·exfalso;simp at h;exact hL h
 refine CallG.ren2 0 4 rfl rfl rfl rfl (CallG.ren2 1 3 rfl rfl rfl rfl ?_);refine call_os 2 0 en75 rfl rfl rfl aL aL (hcal (dLs X.names (dTbl X.names X.ord) X.rows X.js)) (fun r os' tk' hΦ h1 h2=>?_);obtain ⟨rfl,hord⟩:=hΦ;have h2:=List.eq_nil_of_length_eq_zero h2;subst h2;by_cases hNm:(namedF ⟨levels,order,types,.mk rh rp⟩).1≠0
 ·rw [if_pos hNm] at hF
  obtain ⟨a,b,rfl⟩:∃ a b,os'=[a,b]:=by
   match os',h1 with
   | [a,b],_=>exact ⟨a,b,rfl⟩
  refine br (fun h=>?_) (fun h=>?_)
  ·refine drawG_s mo (by decide +kernel) ?_;exact ⟨_,ax,resΦ_bad (os:=[]) (tk:=[]) hF hNm⟩
  ·exfalso;simp at h;exact hNm h
 rw [if_neg hNm] at hF;have hNm0:(namedF ⟨levels,order,types,.mk rh rp⟩).1=0:=by simpa using hNm
 have hl64:=hnamed hNm0;obtain ⟨ord2,hT,hol,rfl⟩:=hord hNm0;refine br (fun h=>?_) (fun _=>?_)
 ·exfalso;simp at h;exact hNm h
 refine call_os 2 0 en76 rfl rfl rfl aL aL (heaR (dLs X.names (dTbl X.names X.ord) X.rows X.js) ord2) (fun r os' tk' hΦ h1 h2=>?_);obtain ⟨rfl,rfl⟩:=hΦ;have h2:=List.eq_nil_of_length_eq_zero h2;subst h2;by_cases hR:(eaR (.mk rh rp) types 0).1.1≠0
 ·rw [if_pos (show (eaR (Sch.mk levels order types (.mk rh rp)).root (Sch.mk levels order types (.mk rh rp)).types 0).1.1≠0 from hR)] at hF;refine br (fun h=>?_) (fun h=>?_)
  ·refine drawG_s mo (by decide +kernel) ?_;exact ⟨_,ax,resΦ_bad (os:=[]) (tk:=[]) hF hR⟩
  ·exfalso;simp at h;exact hR h
 rw [if_neg (show ¬ (eaR (Sch.mk levels order types (.mk rh rp)).root (Sch.mk levels order types (.mk rh rp)).types 0).1.1≠0 from hR)] at hF;have hR0:(eaR (.mk rh rp) types 0).1.1=0:=by simpa using hR
 refine br (fun h=>?_) (fun _=>?_)
 ·exfalso;simp at h;exact hR h
 have hea:=heaL X hX ord2 hT (by have:types.length<=64:=hl64;have:ord2.length<=types.length:=hol;omega) (eaR (.mk rh rp) types 0).2;have hkeq:∀ t,knT X (tL ⟨levels,order,types,.mk rh rp⟩) t=knS ⟨levels,order,types,.mk rh rp⟩ t:=fun t=>by rw [<- hXX];exact knS_eq _ _ _ t
 have hfeq:eaL (knT X (tL ⟨levels,order,types,.mk rh rp⟩)) (knT X (tL ⟨levels,order,types,.mk rh rp⟩) (.mk rh rp)) types=eaL (knS ⟨levels,order,types,.mk rh rp⟩) (knS ⟨levels,order,types,.mk rh rp⟩ (.mk rh rp)) types:=by
  rw [show knT X (tL ⟨levels,order,types,.mk rh rp⟩)=knS ⟨levels,order,types,.mk rh rp⟩ from funext hkeq]
 refine call_bf en76 hea ax rfl rfl ?_;by_cases hK:(eaL (knS ⟨levels,order,types,.mk rh rp⟩) (knS ⟨levels,order,types,.mk rh rp⟩ (.mk rh rp)) types).1≠0
 ·rw [if_pos (show (eaL (knS ⟨levels,order,types,.mk rh rp⟩) (knS ⟨levels,order,types,.mk rh rp⟩ (Sch.mk levels order types (.mk rh rp)).root) (Sch.mk levels order types (.mk rh rp)).types).1≠0 from hK)] at hF;refine br (fun h=>?_) (fun h=>?_)
  ·refine drawG_s mo (by decide +kernel) ?_;refine ⟨.tup [.v (.pointer none),(eaL (knT X (tL ⟨levels,order,types,.mk rh rp⟩)) (knT X (tL ⟨levels,order,types,.mk rh rp⟩) (.mk rh rp)) types).d],ax,?_⟩;rw [hfeq];exact resΦ_bad (os:=[]) (tk:=[]) hF hK
  ·exfalso;simp only [hfeq] at h;simp at h;exact hK h
 rw [if_neg (show ¬ (eaL (knS ⟨levels,order,types,.mk rh rp⟩) (knS ⟨levels,order,types,.mk rh rp⟩ (Sch.mk levels order types (.mk rh rp)).root) (Sch.mk levels order types (.mk rh rp)).types).1≠0 from hK)] at hF;have hK0:(eaL (knS ⟨levels,order,types,.mk rh rp⟩) (knS ⟨levels,order,types,.mk rh rp⟩ (.mk rh rp)) types).1=0:=by simpa using hK
 refine br (fun h=>?_) (fun _=>?_)
 ·exfalso;have h:(!decide ((eaL (knT X (tL ⟨levels,order,types,.mk rh rp⟩)) (knT X (tL ⟨levels,order,types,.mk rh rp⟩) (.mk rh rp)) types).1=0))=true:=h;rw [hfeq,hK0] at h;simp at h
 have hw2:wdsWt levels + prsWt order + nmsWt types + (Ty.mk rh rp).wt<=1099511627776:=hw;have hnmw:nmsWt types<=1099511627776:=by omega
 obtain ⟨hkr,hkt⟩:=eaL_ok hK0;have hkr':(knT X (tL ⟨levels,order,types,.mk rh rp⟩) (.mk rh rp)).1=0:=by rw [hkeq];exact hkr
 have hkt':∀ x∈types,(knT X (tL ⟨levels,order,types,.mk rh rp⟩) x.2).1=0:=fun x hx=>by rw [hkeq];exact hkt x hx
 have href:∀ x∈types,refB ⟨levels,order,types,.mk rh rp⟩ x.2=true:=fun x hx=>knT_ref (hkt' x hx);have hol':ord2.length<=1099511627776:=by have:types.length<=64:=hl64;have:ord2.length<=types.length:=hol;omega
 refine call_bf en79 (hloop X.pd ord2 X.pd (.v (.slice none 0 0)) (.v (.int .i64 0)) (.v (.slice none 0 0)) (eaR (.mk rh rp) types 0).2 hT hol' hl64 href) ax rfl rfl ?_;by_cases hO:(loopF ⟨levels,order,types,.mk rh rp⟩).1≠0
 ·refine br (fun h=>?_) (fun h=>?_)
  ·refine drawG_s mo (by decide +kernel) ?_;exact ⟨_,ax,resΦ_bad (os:=[]) (tk:=[]) hF hO⟩
  ·exfalso;simp at h;exact hO h
 have hO0:(loopF ⟨levels,order,types,.mk rh rp⟩).1=0:=by simpa using hO
 have hF0:(resF ⟨levels,order,types,.mk rh rp⟩).1=0:=by rw [hF];exact hO0
 refine br (fun h=>?_) (fun _=>?_)
 ·exfalso;simp at h;exact hO h
 refine call_os 2 0 en80 rfl rfl rfl aL aL (hplace (dLs X.names (dTbl X.names X.ord) X.rows X.js) ord2 (eaR (.mk rh rp) types 0).2 hT hol' hl64 href hnmw (loopF_ok hO0)) (fun r os' tk' hΦ h1 h2=>?_);subst hΦ;have h2:=List.eq_nil_of_length_eq_zero h2;subst h2;clear hcal heaR heaL hloop hplace hea hlb;have hN:(dNms types).length=types.length:=dNms_len types;obtain ⟨hwr,hwt,hcm,hc512⟩:=eaR_ok (Int.le_refl 0) hR0;generalize (eaR (.mk rh rp) types 0).2=m at hcm hc512 ⊢
 refine loop_i (fun j st=>∃ (e n:Nat) (base:List DV) (N:List Nd),st=bldSt ⟨levels,order,types,.mk rh rp⟩ ord2 (dLs X.names (dTbl X.names X.ord) X.rows X.js) m (loopF ⟨levels,order,types,.mk rh rp⟩).1 (loopF ⟨levels,order,types,.mk rh rp⟩).2 n base e/\e<=types.length/\n=N.length/\base=(dNds N).flatten/\N ++ ndsAll (levS ⟨levels,order,types,.mk rh rp⟩) ⟨levels,order,types,.mk rh rp⟩ (types.drop e) n=resN ⟨levels,order,types,.mk rh rp⟩/\j=types.length - e) types.length
  (bldSt ⟨levels,order,types,.mk rh rp⟩ ord2 (dLs X.names (dTbl X.names X.ord) X.rows X.js) m (loopF ⟨levels,order,types,.mk rh rp⟩).1 (loopF ⟨levels,order,types,.mk rh rp⟩).2 0 [] 0) (weak_bt 5 ⟨0,176,7,some []⟩ rfl rfl rfl (by repeat' (first | exact rfl | exact we_rfl rfl | exact we_tok (Nat.le_refl _) rfl | exact we_tok (Nat.le_refl _) rfl | refine ⟨_,_,rfl,?_,?_⟩)) rfl rfl wTB) ⟨0,0,[],[],rfl,by omega,rfl,rfl,rfl,by omega⟩ ?_
 rintro j st ⟨e,n,base,N,rfl,he,hn,hbs,hNN,rfl⟩;have hl64':types.length<=64:=hl64;have hlev:X.lev=levS ⟨levels,order,types,.mk rh rp⟩:=by rw [<- hXX];all_goals rfl
 have htot:(resN ⟨levels,order,types,.mk rh rp⟩).length + (Ty.mk rh rp).nn<=512:=by
  have h1:=sum_nn_cnt types;have h2:=(Ty.mk rh rp).nn_cnt;have h3:(resN ⟨levels,order,types,.mk rh rp⟩).length=(types.map fun x=>x.2.nn).sum:=ndsAll_len _ _ _ _;omega
 have hbl:base.length=n * 7:=by rw [hbs,hn,dNds_flen]
 have hNl:n + (ndsAll (levS ⟨levels,order,types,.mk rh rp⟩) ⟨levels,order,types,.mk rh rp⟩ (types.drop e) n).length=(resN ⟨levels,order,types,.mk rh rp⟩).length:=by rw [<- hNN,List.length_append,hn]
 refine br (fun hL=>?_) (fun hL=>?_)
 ·have hlt:e < types.length:=by have:=hL;simp [hN] at this;exact this
  obtain ⟨x,hx⟩:∃ x,types[e]? = some x:=⟨_,gE hlt⟩;have hxm:=mG hx;rw [drop_cons hx,ndsAll] at hNN hNl;rw [List.length_append] at hNl;have hnl:=ndsT_len (levS ⟨levels,order,types,.mk rh rp⟩) ⟨levels,order,types,.mk rh rp⟩ x.2 n;have hnx:=hnode X hX ord2 m hT hol' x.2 (hbig x.2 (.inr ⟨x,hxm,rfl⟩)) (hkt' x hxm) n base (by omega) hbl;rw [hlev] at hnx;obtain ⟨xw,⟨xh,xp⟩⟩:=x;refine ⟨_,⟨by omega,dNms_get hx⟩,?_⟩;refine call_os 2 1 en81 rfl rfl rfl aL aL hnx (fun r os' tk' hΦ h1 h2=>?_);obtain ⟨rfl,rfl,rfl⟩:=hΦ;refine ⟨bldSt ⟨levels,order,types,.mk rh rp⟩ ord2 (dLs X.names (dTbl X.names X.ord) X.rows X.js) m (loopF ⟨levels,order,types,.mk rh rp⟩).1 (loopF ⟨levels,order,types,.mk rh rp⟩).2 (n + (ndsT (levS ⟨levels,order,types,.mk rh rp⟩) ⟨levels,order,types,.mk rh rp⟩ (.mk xh xp) n).length) (base ++ (dNds (ndsT (levS ⟨levels,order,types,.mk rh rp⟩) ⟨levels,order,types,.mk rh rp⟩ (.mk xh xp) n)).flatten) (e + 1),(weak_b 5 rfl (wNA hlt) rfl rfl rfl (wNB hlt)),types.length - (e + 1),by omega,e + 1,_,_,N ++ ndsT (levS ⟨levels,order,types,.mk rh rp⟩) ⟨levels,order,types,.mk rh rp⟩ (.mk xh xp) n,rfl,by omega,by rw [List.length_append,hn],by rw [hbs];simp [dNds],?_,rfl⟩;rw [List.append_assoc,hnl];exact hNN
 have hge:e=types.length:=by have:=hL;simp [hN] at this;omega
 subst hge;rw [List.drop_length,ndsAll,List.append_nil] at hNN;rw [List.drop_length,ndsAll,List.length_nil,Nat.add_zero] at hNl;have hnr:=hnode X hX ord2 m hT hol' (.mk rh rp) (by omega) hkr' n base (by omega) hbl;rw [hlev] at hnr;intro E a w hr;have hr':=drew_rel hr;obtain ⟨b0,ty0,arr0,hb0,hw0,hc0⟩:=hr'.env.bxs 0 _ rfl;obtain ⟨b1,ty1,arr1,hb1,hw1,hc1⟩:=hr'.env.bxs 1 _ rfl;obtain ⟨v13,hv13,hp13⟩:=RvL.get (i:=13) (d:=.loc 1 0) hc0.1 rfl
 have hv13':v13 = .pointer (some ⟨b1,0,none⟩):=by
  unfold Rv at hp13;obtain ⟨b,hb,rfl⟩:=hp13;rw [hb1] at hb;simp only [oI] at hb;rw [hb]
 subst hv13'
 have hcell:w.drew.cell? ⟨b0,13,none⟩=some (.pointer (some ⟨b1,0,none⟩)):=by
  rw [cell_blk hw0];simpa using hv13
 have hem:=em_mask hr'.env [0,1,2,3];generalize hbm:maskL [0,1,2,3] 0 _=bxm at hem
 have hbmi:∀ (i:Nat) cs,bxm[i]? = some cs->cs ≠ []->2<=i:=fun i cs hi hne=>by
  rw [<- hbm] at hi
  match i,hi with
  | 0,hi=>exact (hne (by simpa [maskL] using hi.symm)).elim
  | 1,hi=>exact (hne (by simpa [maskL] using hi.symm)).elim
  | i + 2,_=>omega
 refine wp_region_run (C:=fun w'=>CC E bxm w.drew w' /\ w'.cell? ⟨b0,13,none⟩=some (.pointer (some ⟨b1,0,none⟩))) (W:=fun i=>Nat.beq i 10) (Q:=fun a w=>kq _ _ .normal a w) mo (by decide +kernel) (fun _ _ h=>h) ⟨⟨fun _ _ _ _ _ _=>rfl,hr'.env.sub⟩,hcell⟩ ?_;show Go.Proofs.YtadbccicdbopcaaGreat.Dv.runT _ _ _ _ _ [0,1,2,3,4,5,6,7,8,9,10] _ _;refine runT_np hr' rfl rfl rfl rfl rfl rfl (fun a0 h0=>?_);refine runT_np h0 rfl rfl rfl rfl rfl rfl (fun a1 h1=>?_);refine runT_np h1 rfl rfl rfl rfl rfl rfl (fun a2 h2=>?_);refine runT_ld h2 rfl hb1 rfl rfl hb0 rfl rfl (fun w' h=>h.2) ⟨⟨fun _ _ _ _ _ _=>rfl,hr'.env.sub⟩,hcell⟩ rfl rfl (fun a3 h3=>?_);refine runT_np h3 rfl rfl rfl rfl rfl rfl (fun a4 h4=>?_);refine runT_np h4 rfl rfl rfl rfl rfl rfl (fun a5 h5=>?_);refine runT_lo h5 rfl (bx:=bxm) (rl_mask h5 hem (fun w' h=>h.1)) ⟨⟨fun _ _ _ _ _ _=>rfl,hr'.env.sub⟩,hcell⟩ rfl rfl (by rw [<- hbm];rfl) rfl (fun a6 h6=>?_);refine runT_os h6 rfl rfl rfl rfl rfl rfl en81 2 1 rfl rfl aL aL hnr rfl rfl ?_;intro v r os' tk' E' w' hΦ _ _ hrel hrv hx hβ hh;obtain ⟨rfl,rfl,rfl⟩:=hΦ;refine ⟨fun _ hC=>⟨⟨fun i b cs hb hcs hne=>?_,fun x v hxv=>hrel.env.sub x v (hx.c x v hxv)⟩,?_⟩,?_⟩
 ·exact hh i b (hbmi i cs hcs hne) hb
 ·obtain ⟨b0',ty0',arr0',hb0',hw0',hc0'⟩:=hrel.env.bxs 0 _ rfl;rw [hβ,hb0] at hb0';simp only [oI] at hb0';subst hb0';obtain ⟨u13,hu13,hq13⟩:=RvL.get (i:=13) (d:=.loc 1 0) hc0'.1 rfl;unfold Rv at hq13;obtain ⟨b,hb,rfl⟩:=hq13;rw [hβ,hb1] at hb;simp only [oI] at hb;subst hb;rw [cell_blk hw0'];simpa using hu13
 have h7:=put_rel (dst:=some 77) hrel rfl _ v hrv;have hrN:(resN ⟨levels,order,types,.mk rh rp⟩).length=n:=by rw [<- hNN,hn]
 have hrow:base ++ (dNds (ndsT (levS ⟨levels,order,types,.mk rh rp⟩) ⟨levels,order,types,.mk rh rp⟩ (.mk rh rp) n)).flatten=(dNds (resNds ⟨levels,order,types,.mk rh rp⟩)).flatten:=by
  unfold resNds;rw [hrN,<- hNN,hbs];simp [dNds]
 have hnlen:(dNds (resNds ⟨levels,order,types,.mk rh rp⟩)).length=n + (ndsT (levS ⟨levels,order,types,.mk rh rp⟩) ⟨levels,order,types,.mk rh rp⟩ (.mk rh rp) n).length:=by
  unfold resNds;rw [hrN];simp [dNds,hrN]
 obtain ⟨E3,h8⟩:=own_obj h7 1 1 0 (ns:=dNds (resNds ⟨levels,order,types,.mk rh rp⟩)) (congrArg (fun b=>some (rowN (n + (ndsT (levS ⟨levels,order,types,.mk rh rp⟩) ⟨levels,order,types,.mk rh rp⟩ (.mk rh rp) n).length) b)) hrow) (fun x hx=>by
  simp only [dNds,List.mem_map] at hx;obtain ⟨y,_,rfl⟩:=hx
  rfl) hnlen rfl rfl List.length_replicate
 refine runT_np h8 rfl rfl rfl rfl rfl rfl (fun a8 h9=>?_);refine runT_np h9 rfl rfl rfl rfl rfl rfl (fun a9 h10=>?_);refine runT_last h10 rfl rfl rfl rfl rfl rfl ?_;refine ⟨.tup [.pt [X.pd,.sl 7 (dNds (resNds ⟨levels,order,types,.mk rh rp⟩)) none,.v (.int .i64 (idxF ⟨levels,order,types,.mk rh rp⟩ (.mk rh rp) n)),.pt (dTbl (tL ⟨levels,order,types,.mk rh rp⟩) ord2) 0,.sl 1 (dInts (namedL ⟨levels,order,types,.mk rh rp⟩)) none] 0,Ft.d (0,0)],ax,resΦ_ok (os:=[]) (tk:=[]) hF0 ⟨ord,ord2,js,by rw [hXX];exact hX,hT,hol,?_⟩⟩;rw [planC,hXX,resRoot,hrN]
theorem clone_s (es:List (List DV)) (hl:es.length<=1099511627776):Ev Tryz.prog 209 [.sl 1 es none] [] [] (fun r _ _=>r = .sl 1 es none∨(es=[]/\r = .v (.slice none 0 0))):=by
 refine ev_go (P:=Tryz.prog) tt tt_ok 5000 8 [.tmp 2] Tryz.func209 rfl Tryz.ntmps209 rfl (nL rfl) (fun E9 w9 hn9 hm9=>?_);refine op_nil ⟨_,rfl⟩ rfl rfl rfl rfl (fun b hb=>?_);refine br (fun h=>?_) (fun h=>?_)
 ·have h:b=true:=h;have he:es=[]:=Classical.byContradiction fun hn=>by rw [hb hn] at h;cases h
  subst he;exact Or.inr ⟨rfl,rfl⟩
 ·refine op_empty rfl rfl rfl rfl (hk:=?_);refine ⟨rfl,⟨by simp [maxLen];omega,by simp;omega⟩,?_⟩;exact ⟨_,ax,Or.inl rfl⟩
theorem clone_e (es:List (List DV)) (hl:es.length<=1099511627776):Ev Tryz.prog 210 [.sl 10 es none] [] [] (fun r _ _=>r = .sl 10 es none∨(es=[]/\r = .v (.slice none 0 0))):=by
 refine ev_go (P:=Tryz.prog) tt tt_ok 5000 8 [.tmp 2] Tryz.func210 rfl Tryz.ntmps210 rfl (nL rfl) (fun E9 w9 hn9 hm9=>?_);refine op_nil ⟨_,rfl⟩ rfl rfl rfl rfl (fun b hb=>?_);refine br (fun h=>?_) (fun h=>?_)
 ·have h:b=true:=h;have he:es=[]:=Classical.byContradiction fun hn=>by rw [hb hn] at h;cases h
  subst he;exact Or.inr ⟨rfl,rfl⟩
 ·refine op_empty rfl rfl rfl rfl (hk:=?_);refine ⟨rfl,⟨by simp [maxLen];omega,by simp;omega⟩,?_⟩;exact ⟨_,ax,Or.inl rfl⟩
def plD (lc:List DV) (nds:List Nd) (root:Int) (L:List ByteArray) (ord:List Nat) (named:List Nat):DV:=.pt [.pt lc 0,.sl 7 (dNds nds) none,.v (.int .i64 root),.pt (dTbl L ord) 0,.sl 1 (dInts named) none] 0
theorem dNds_len (l:List Nd):(dNds l).length=l.length:=by simp [dNds]
theorem dNds_get {l:List Nd} {i:Nat} {n:Nd} (h:l[i]? = some n):(dNds l)[i]? = some (dNd n):=by simp [dNds,h]
section
variable (lc:List DV) (nds:List Nd) (root:Int) (L:List ByteArray) (ord:List Nat) (named:List Nat)
theorem plen_spec:EvP Tryz.prog 202 [plD lc nds root L ord named] (.v (.int .i64 nds.length)):=by
 refine ev_go (P:=Tryz.prog) tt tt_ok 5000 10 [.tmp 2] Tryz.func202 rfl Tryz.ntmps202 rfl (nL rfl) (fun E9 w9 hn9 hm9=>?_);refine (congrArg (fun z=>DV.v (.int .i64 z)) ?_:_=_);rw [dNds_len]
theorem proot_spec:EvP Tryz.prog 35 [plD lc nds root L ord named] (.v (.int .i64 root)):=by
 refine ev_go (P:=Tryz.prog) tt tt_ok 5000 9 [.tmp 2] Tryz.func35 rfl Tryz.ntmps35 rfl (nL rfl) (fun E9 w9 hn9 hm9=>?_);exact (rfl:_=_)
theorem plat_spec:EvP Tryz.prog 53 [plD lc nds root L ord named] (.pt lc 0):=by
 refine ev_go (P:=Tryz.prog) tt tt_ok 5000 9 [.tmp 2] Tryz.func53 rfl Tryz.ntmps53 rfl (nL rfl) (fun E9 w9 hn9 hm9=>?_);exact ⟨_,ax,rfl⟩
theorem pnode_spec (i:Nat) (n:Nd) (h:nds[i]? = some n) (hn:n.names.length<=1099511627776) (he:n.edges.length<=1099511627776) :
  EvP Tryz.prog 100 [plD lc nds root L ord named,.v (.int .i64 i)] (.tup [.agg (dNd n),.v (.bool true)]):=by
 have hlt:=(gS h).1;have hlen:=plen_spec lc nds root L ord named;have hc1:=clone_s (dBs n.names) (by rw [dBs_len];exact hn);have hc2:=clone_e (dEds n.edges) (by rw [dEds_len];exact he);refine ev_go (P:=Tryz.prog) tt tt_ok 5000 32 [.cell 4 176,.tmp 5] Tryz.func100 rfl Tryz.ntmps100 rfl (nL rfl) (fun E9 w9 hn9 hm9=>?_);refine call_p en202 (hlen) ax rfl ?_;refine br (fun g=>?_) (fun g=>?_)
 ·exfalso;simp [pickB] at g;omega
 refine ⟨_,⟨by omega,dNds_get h⟩,?_⟩;refine drawG_s mo (by decide +kernel) ?_;refine callD_e en209 rfl hc1 ax (fun r1 hr1=>?_);rcases hr1 with rfl | ⟨h1,rfl⟩
 ·refine callD_e en210 rfl hc2 ax (fun r2 hr2=>?_);rcases hr2 with rfl | ⟨h2,rfl⟩
  ·exact ⟨.tup [.agg (dNd n),.v (.bool true)],ax,rfl⟩
  ·exact ⟨.tup [.agg (dNd n),.v (.bool true)],(by repeat' (first | exact rfl | exact trivial | exact Or.inr (Or.inl ⟨_,rfl⟩) | exact Or.inr ⟨_,rfl⟩ | exact Or.inl ⟨rfl,rfl⟩ | exact Or.inl rfl | refine Or.inr ⟨_,_,rfl,Nat.zero_le _,rfl,?_⟩ | refine ⟨_,_,rfl,?_,?_⟩ | refine ⟨_,rfl,?_⟩ | exact Or.inl ⟨h2,rfl⟩ | refine Or.inr (Or.inr (Or.inr ⟨_,_,rfl,?_⟩)) | exact Or.inl rfl | refine Or.inr ?_)),rfl⟩
 ·refine callD_e en210 rfl hc2 ax (fun r2 hr2=>?_);rcases hr2 with rfl | ⟨h2,rfl⟩
  ·exact ⟨.tup [.agg (dNd n),.v (.bool true)],(by repeat' (first | exact rfl | exact trivial | exact Or.inr (Or.inl ⟨_,rfl⟩) | exact Or.inr ⟨_,rfl⟩ | exact Or.inl ⟨rfl,rfl⟩ | exact Or.inl rfl | refine Or.inr ⟨_,_,rfl,Nat.zero_le _,rfl,?_⟩ | refine ⟨_,_,rfl,?_,?_⟩ | refine ⟨_,rfl,?_⟩ | exact Or.inl ⟨h1,rfl⟩ | refine Or.inr (Or.inr (Or.inr ⟨_,_,rfl,?_⟩)) | exact Or.inl rfl | refine Or.inr ?_)),rfl⟩
  ·exact ⟨.tup [.agg (dNd n),.v (.bool true)],(by repeat' (first | exact rfl | exact trivial | exact Or.inr (Or.inl ⟨_,rfl⟩) | exact Or.inr ⟨_,rfl⟩ | exact Or.inl ⟨rfl,rfl⟩ | exact Or.inl rfl | refine Or.inr ⟨_,_,rfl,Nat.zero_le _,rfl,?_⟩ | refine ⟨_,_,rfl,?_,?_⟩ | refine ⟨_,rfl,?_⟩ | exact Or.inl ⟨h1,rfl⟩ | exact Or.inl ⟨h2,rfl⟩ | refine Or.inr (Or.inr (Or.inr ⟨_,_,rfl,?_⟩)) | exact Or.inl rfl | refine Or.inr ?_)),rfl⟩
theorem pnode_none (i:Int) (h:i < 0∨nds.length<=i) :
  EvP Tryz.prog 100 [plD lc nds root L ord named,.v (.int .i64 i)] (.tup [.agg [.v (.int .i64 0),.v (.int .i64 0),.v (.int .i64 0),.v (.int .i64 0),.v (.int .i64 0),.v (.slice none 0 0),.v (.slice none 0 0)],.v (.bool false)]):=by
 have hlen:=plen_spec lc nds root L ord named;refine ev_go (P:=Tryz.prog) tt tt_ok 5000 32 [.cell 4 176,.tmp 5] Tryz.func100 rfl Tryz.ntmps100 rfl (nL rfl) (fun E9 w9 hn9 hm9=>?_);refine br (fun g=>?_) (fun g=>?_)
 ·refine call_p en202 (hlen) ax rfl ?_;refine br (fun g2=>?_) (fun g2=>?_)
  ·exact ⟨_,ax,rfl⟩
  ·exfalso;simp at g;simp [pickB,g] at g2;omega
 ·exact ⟨_,ax,rfl⟩
end
theorem plen_nil:EvP Tryz.prog 202 [.v (.pointer none)] (.v (.int .i64 0)):=by
 refine ev_go (P:=Tryz.prog) tt tt_ok 5000 10 [.tmp 2] Tryz.func202 rfl Tryz.ntmps202 rfl (nL rfl) (fun E9 w9 hn9 hm9=>?_);exact (rfl:_=_)
abbrev greatSt (s:Sch) (n d k q:Int) (e:Nat):St:=
 ⟨[(1,⟨[],.loc 0 0⟩),(3,⟨[],.v (.int .i64 n)⟩),(4,⟨[],.v (.int .i64 d)⟩),(5,⟨[],.v (.int .i64 e)⟩)],[dSch s],[]⟩
theorem great17_spec (s:Sch) (hbig:s.wt<=1099511627776):Ev Tryz.prog 31 [.agg (dSch s)] [] [] (fun d _ _=>∃ b:Bool,d = .v (.bool b)):=by
 have h1:=wdsWt_len s.levels;have h2:=prsWt_len s.order;have h3:=nmsWt_len s.types;simp only [Sch.wt] at hbig;have hroot:=size15_spec s.root.wt s.root (Nat.le_refl _) (by omega);obtain ⟨levels,order,types,⟨h,ps⟩⟩:=s;simp only at h1 h2 h3 hbig hroot;refine ev_go (P:=Tryz.prog) tt tt_ok 5000 60 [.tmp 2] Tryz.func31 rfl Tryz.ntmps31 rfl (nL rfl) (fun E9 w9 hn9 hm9=>?_);refine br (fun _=>?_) (fun _=>?_)
 ·exact ⟨true,rfl⟩
 refine call_p en99 (hroot) ax rfl ?_;refine loop_i (fun j st=>∃ (e:Nat) (n d:Int),st=greatSt ⟨levels,order,types,.mk h ps⟩ n d 0 0 e/\e<=types.length/\j=types.length - e) types.length (greatSt ⟨levels,order,types,.mk h ps⟩ (Ty.mk h ps).cnt (Ty.mk h ps).deep 0 0 0) (weak_mk ⟨_,rfl⟩ wA rfl rfl rfl wB) ⟨0,_,_,rfl,by omega,by omega⟩ ?_;rintro j st ⟨e,n,d,rfl,he,rfl⟩;refine br (fun hL=>?_) (fun hL=>?_)
 ·have hlt:e < types.length:=by have:=hL;simp [dNms_len] at this;exact this
  obtain ⟨w,hw⟩:∃ w,types[e]? = some w:=⟨_,gE hlt⟩;have hwt:=nmsWt_mem (mG hw);have hs:=size15_spec w.2.wt w.2 (Nat.le_refl _) (by omega);obtain ⟨w,u,us⟩:=w;simp only at hs;refine ⟨_,⟨by omega,dNms_get hw⟩,?_⟩;refine call_p en99 (hs) ax rfl ?_;refine br (fun _=>?_) (fun _=>?_)
  ·exact ⟨greatSt ⟨levels,order,types,.mk h ps⟩ _ _ 0 0 (e + 1),(weak_mk ⟨_,rfl⟩ wA rfl rfl rfl (wNB hlt)),types.length - (e + 1),by omega,e + 1,_,_,rfl,by omega,rfl⟩
  ·exact ⟨greatSt ⟨levels,order,types,.mk h ps⟩ _ _ 0 0 (e + 1),(weak_mk ⟨_,rfl⟩ wA rfl rfl rfl (wNB hlt)),types.length - (e + 1),by omega,e + 1,_,_,rfl,by omega,rfl⟩
 exact ⟨_,rfl⟩
def samePrs:List (Wd × Wd)->List (Wd × Wd)->Bool
 | [],[]=>true
 | x :: r,y :: s=>(decide (x.1.s=y.1.s) && decide (x.2.s=y.2.s)) && samePrs r s
 | _,_=>false
def sameNms:List (Wd × Ty)->List (Wd × Ty)->Bool
 | [],[]=>true
 | x :: r,y :: s=>(decide (x.1.s=y.1.s) && sameTy x.2 y.2) && sameNms r s
 | _,_=>false
def sameS (a b:Sch):Bool:=sameWds a.levels b.levels && samePrs a.order b.order && sameTy a.root b.root && sameNms a.types b.types
theorem max_depth:∃ d,Op.maxDepth=d + 1 + 1 + 1:=⟨Op.maxDepth - 3,by decide⟩
theorem ft_equal (p q r s:Int) (w:World):(Op.equal 46 (.agg #[.int .i64 p,.int .i64 q]) (.agg #[.int .i64 r,.int .i64 s])).run Tryz.prog w = .ok (decide (p=r) && decide (q=s)) w:=by
 have hf:Tryz.prog.underlying 46=some (.struct (Tryz.prog.fieldsOf 46)):=by simp [Program.fieldsOf,Tryz.underlying46]
 have hf2:(Tryz.prog.fieldsOf 46).toList=[⟨ "E",44,0,false, "", "",0⟩,⟨ "At",3,1,false, "", "",8⟩]:=by simp [Program.fieldsOf,Tryz.underlying46]
 have hs:Tryz.prog.stoodInHeld 46=false:=by kernel_rfl
 obtain ⟨d,hm⟩:=max_depth
 have q9:∀ cs:Array Value,∀ off v,cs[off]? = some v->(part 44 cs off).run Tryz.prog w = .ok v w:=fun cs off v h=>by
  simp [part,Tryz.isAgg44,h]
 have q3:∀ cs:Array Value,∀ off v,cs[off]? = some v->(part 3 cs off).run Tryz.prog w = .ok v w:=fun cs off v h=>by
  simp [part,Tryz.isAgg3,h]
 unfold Op.equal;rw [hm,run_equalIn_struct w (d + 1 + 1) 46 _ _ hf hs,hf2];simp only [Op.eqFields,ne_eq,String.reduceEq,not_false_eq_true,if_true,Sem.run_bind,q9 #[.int .i64 p,.int .i64 q] 0 (.int .i64 p) rfl,q9 #[.int .i64 r,.int .i64 s] 0 (.int .i64 r) rfl,Result.andThen_ok,run_equalIn_int w (d + 1) 44 .i64 .i64 p r Tryz.underlying44];by_cases h:p=r
 ·subst h;have e1:=q3 #[.int .i64 p,.int .i64 q] 1 (.int .i64 q) rfl;have e2:=q3 #[.int .i64 p,.int .i64 s] 1 (.int .i64 s) rfl;have e3:=run_equalIn_int w (d + 1) 3 .i64 .i64 q s Tryz.underlying3;by_cases h2:q=s
  ·subst h2;simp [e1,e3,Sem.run_pure]
  ·simp [e1,e2,e3,h2,Sem.run_pure]
 ·simp [h,Sem.run_pure]
theorem ft_eql (p q r s:Int) (w:World):(binOp .eql 46 (.agg #[.int .i64 p,.int .i64 q]) (.agg #[.int .i64 r,.int .i64 s])).run Tryz.prog w = .ok (.bool (decide (p=r) && decide (q=s))) w:=by
 show ((do let r <- Op.equal 46 _ _;pure (Value.bool r)):Sem Value).run Tryz.prog w=_;simp only [Sem.run_bind,ft_equal p q r s w,Result.andThen_ok,Sem.run_pure]
theorem ft_guard (op:BinOp) (w:World) (x y:Operand) (vs vs':Array Value):(eqGuard op 46 x y (.agg vs) (.agg vs')).run Tryz.prog w = .ok () w:=by
 have h:Tryz.prog.eqGuardType Tryz.prog.depth 46=false:=by kernel_rfl
 cases op<;>simp [eqGuard,run_program,h]
theorem ft_cmp (x y:Operand) (f g:Ft):AggCmp Tryz.prog .eql x y 46 [.v (.int .i64 f.1),.v (.int .i64 f.2)] [.v (.int .i64 g.1),.v (.int .i64 g.2)] (decide (f.1=g.1) && decide (f.2=g.2)):=
 ⟨[.int .i64 f.1,.int .i64 f.2],[.int .i64 g.1,.int .i64 g.2],rfl,rfl,fun w=>⟨ft_guard _ w x y _ _,ft_eql f.1 f.2 g.1 g.2 w⟩⟩
end Go.Proofs.YtadbccicdbopcaaGreat
set_option maxRecDepth 100000
namespace Go.Proofs.YtadbccicdbopcaaGreat
open Go Go.RowKit Dv Tryz
end Go.Proofs.YtadbccicdbopcaaGreat
set_option maxRecDepth 100000
namespace Go.Proofs.YtadbccicdbopcaaGreat
open Go Go.RowKit Dv Tryz
def cB (r:List Bool):List DV:=r.map fun b=>DV.v (.bool b)
def dBo (r:List Bool):List (List DV):=r.map fun b=>[DV.v (.bool b)]
def dMat (m:List (List Bool)):List (List DV):=m.map fun r=>[DV.sl 1 (dBo r) none]
theorem cB_len (r:List Bool):(cB r).length=r.length:=by simp [cB]
theorem dBo_len (r:List Bool):(dBo r).length=r.length:=by simp [dBo]
theorem dMat_len (m:List (List Bool)):(dMat m).length=m.length:=by simp [dMat]
theorem cB_get {r:List Bool} {i:Nat} {b:Bool} (h:r[i]? = some b):(cB r)[i]? = some (DV.v (.bool b)):=by simp [cB,h]
theorem cB_set (r:List Bool) (i:Nat) (b:Bool):(cB r).set i (DV.v (.bool b))=cB (r.set i b):=by simp [cB,List.map_set]
theorem dBo_get {r:List Bool} {i:Nat} {b:Bool} (h:r[i]? = some b):(dBo r)[i]? = some [DV.v (.bool b)]:=by simp [dBo,h]
theorem dMat_get {m:List (List Bool)} {i:Nat} {r:List Bool} (h:m[i]? = some r):(dMat m)[i]? = some [DV.sl 1 (dBo r) none]:=by simp [dMat,h]
theorem dBo_flat (r:List Bool):(dBo r).flatten=cB r:=by
 induction r with
 | nil=>rfl
 | cons b r ih=>simp only [dBo,cB,List.map_cons,List.flatten_cons] at ih ⊢;rw [ih];all_goals rfl
theorem repB (n:Nat):(List.replicate n (vL [Value.bool false])).flatten=cB (List.replicate n false):=by
 induction n with
 | zero=>rfl
 | succ n ih=>simp only [List.replicate_succ,List.flatten_cons,ih];rfl
theorem weL_cB {n m:Nat} {tk:List TkE} {l:List DV} {r:List Bool} (h:l=cB r):WeL n m tk l (cB r):=by
 subst h;refine weL_sc _ fun x hx=>?_;obtain ⟨z,_,rfl⟩:=List.mem_map.1 hx;exact ⟨_,rfl⟩
theorem ms_bo {bx:List (List DV)} {N n0 m0 n:Nat} {r:List Bool} (hr:r.length=n) (hN:N<=0) (hb:bx[0]? = some (cB r)):Cc bx N n0 m0 (.sl 1 (dBo r) none) (.ms 0 1 0 n n):=by
 simp only [Cc];refine Or.inr (Or.inr (Or.inl ⟨0,0,n,_,by rw [dBo_len,hr],hN,hb,?_,?_,?_⟩))
 ·rw [dBo_flat,List.drop_zero,List.take_of_length_le (by rw [cB_len,dBo_len];omega)]
 ·intro x hx;simp only [dBo,List.mem_map] at hx;obtain ⟨_,_,rfl⟩:=hx;rfl
 ·intro x hx;rw [dBo_flat] at hx;obtain ⟨_,_,rfl⟩:=List.mem_map.1 hx;exact ⟨_,rfl⟩
def leadsM (n:Nat) (l:List (Nat × Nat)):List (List Bool):=(List.range n).map (rowW n l)
theorem leadsM_len (n:Nat) (l:List (Nat × Nat)):(leadsM n l).length=n:=by simp [leadsM]
theorem leadsM_get {n a:Nat} (l:List (Nat × Nat)) (h:a < n):(leadsM n l)[a]? = some (rowW n l a):=by simp [leadsM,List.getElem?_range h]
theorem leadsM_eq {n:Nat} {l:List (Nat × Nat)} (h:PrOK n l):leadsM n l=matB n (leqN n l):=by
 unfold leadsM matB;exact List.map_congr_left fun a ha=>rowW_eq h (List.mem_range.1 ha)
def stepsW (l:List (Nat × Nat)) (r:List Bool) (e:Nat):List Bool:=(l.take e).foldl stepW r
theorem stepsW_len (l:List (Nat × Nat)) (r:List Bool) (e:Nat):(stepsW l r e).length=r.length:=roundW_len (l.take e) r
theorem stepsW_succ {l:List (Nat × Nat)} {r:List Bool} {e:Nat} {p:Nat × Nat} (h:l[e]? = some p):stepsW l r (e + 1)=stepW (stepsW l r e) p:=by
 unfold stepsW;rw [List.take_add_one,h];simp
abbrev ldSt (n:Nat) (l:List (Nat × Nat)) (q e:Nat):St:=
 ⟨[(0,⟨[],.v (.int .i64 n)⟩),(1,⟨[],.sl 2 (dNPs l) none⟩),(5,⟨[],.sl 1 (dMat ((leadsM n l).take e)) (some 0)⟩),(6,⟨[],.v (.int .i64 e)⟩)],[],[⟨q,166,1,none⟩]⟩
abbrev ld2St (n:Nat) (l:List (Nat × Nat)) (q e:Nat) (r:List Bool) (k:Nat):St:=
 ⟨[(0,⟨[],.v (.int .i64 n)⟩),(1,⟨[],.sl 2 (dNPs l) none⟩),(5,⟨[],.sl 1 (dMat ((leadsM n l).take e)) (some 0)⟩),(6,⟨[],.v (.int .i64 e)⟩),(7,⟨[],.ms 0 1 0 n n⟩),(8,⟨[],.v (.int .i64 k)⟩)],[cB r],[⟨q,166,1,none⟩]⟩
abbrev ld3St (n:Nat) (l:List (Nat × Nat)) (q e:Nat) (r:List Bool) (k i:Nat):St:=
 ⟨[(0,⟨[],.v (.int .i64 n)⟩),(1,⟨[],.sl 2 (dNPs l) none⟩),(5,⟨[],.sl 1 (dMat ((leadsM n l).take e)) (some 0)⟩),(6,⟨[],.v (.int .i64 e)⟩),(7,⟨[],.ms 0 1 0 n n⟩),(8,⟨[],.v (.int .i64 k)⟩),(9,⟨[],.v (.int .i64 i)⟩)],[cB r],[⟨q,166,1,none⟩]⟩
abbrev ldFSt (n:Nat) (l:List (Nat × Nat)) (q e:Nat) (r:List Bool):St:=
 ⟨[(0,⟨[],.v (.int .i64 n)⟩),(1,⟨[],.sl 2 (dNPs l) none⟩),(6,⟨[],.v (.int .i64 e)⟩),(46,⟨[],.sl 1 (dMat ((leadsM n l).take e)) (some 0)⟩),(47,⟨[],.sl 1 (dBo r) none⟩)],[],[⟨q,166,1,none⟩]⟩
theorem leads_spec (n:Nat) (hn:n<=64) (l:List (Nat × Nat)) (hP:PrOK n l) (hb:l.length<=1099511627776) :
  EvP Tryz.prog 196 [.v (.int .i64 n),.sl 2 (dNPs l) none] (.sl 1 (dMat (leadsM n l)) none):=by
 have hNl:=dNPs_len l;have hML:=leadsM_len n l;refine ev_go (P:=Tryz.prog) tt tt_ok 5000 51 [.tmp 4] Tryz.func196 rfl Tryz.ntmps196 rfl (nL rfl) (fun E9 w9 hn9 hm9=>?_);refine loop_i (fun j st=>∃ e:Nat,st=ldSt n l e e/\e<=n/\j=n - e) n (ldSt n l 0 0) (weak_tok ⟨0,166,1,none⟩ rfl ⟨_,rfl⟩ rfl wA rfl rfl wTB) ⟨0,rfl,by omega,by omega⟩ ?_;rintro j st ⟨e,rfl,he,rfl⟩;refine br (fun hL=>?_) (fun hL=>?_)
 ·have hlt:e < n:=by have:=hL;simp at this;exact this
  have hr0l:((List.replicate n false).set e true).length=n:=by simp
  refine ⟨⟨rfl,by omega,by omega,by omega⟩,?_⟩;refine ⟨⟨by omega,by omega⟩,?_⟩;refine ⟨by rw [repB,cB_len,List.length_replicate];omega,?_⟩
  have hb0:((List.replicate (n:Int).toNat (vL [Value.bool false])).flatten).set (0 + (e:Int).toNat * 1) (DV.v (.bool true))=cB (roundsW l ((List.replicate n false).set e true) 0):=by
   rw [repB,show 0 + (e:Int).toNat * 1=e by omega,show (n:Int).toNat=n by omega,cB_set];rfl
  refine loop_i (fun j st=>∃ k:Nat,st=ld2St n l e e (roundsW l ((List.replicate n false).set e true) k) k/\k<=n/\j=n - k) n (ld2St n l e e (roundsW l ((List.replicate n false).set e true) 0) 0) (weak_b 1 rfl (by repeat' (first | exact rfl | exact we_rfl rfl | exact weL_cB hb0 | refine ⟨_,_,rfl,?_,?_⟩)) rfl rfl rfl (by repeat' (first | exact trivial | exact we_rfl rfl | exact weL_cB hb0 | refine ⟨⟨_,rfl,?_⟩,?_⟩))) ⟨0,rfl,by omega,by omega⟩ ?_;rintro j st ⟨k,rfl,hk,rfl⟩;have hrl:=roundsW_len l ((List.replicate n false).set e true) k;have hrs:=roundsW_succ l ((List.replicate n false).set e true) k;refine br (fun hL2=>?_) (fun hL2=>?_)
  ·have hkt:k < n:=by have:=hL2;simp at this;exact this
   generalize roundsW l ((List.replicate n false).set e true) k=r at hrl hrs ⊢;rw [hr0l] at hrl;refine loop_i (fun j st=>∃ i:Nat,st=ld3St n l e e (stepsW l r i) k i/\i<=l.length/\j=l.length - i) l.length (ld3St n l e e (stepsW l r 0) k 0) (weak_b 1 rfl (by repeat' (first | exact rfl | exact we_rfl rfl | exact weL_cB rfl | refine ⟨_,_,rfl,?_,?_⟩)) rfl rfl rfl (by repeat' (first | exact trivial | exact we_rfl rfl | exact weL_cB rfl | refine ⟨⟨_,rfl,?_⟩,?_⟩))) ⟨0,rfl,by omega,by omega⟩ ?_;rintro j st ⟨i,rfl,hi,rfl⟩;have hsl:=stepsW_len l r i;refine br (fun hL3=>?_) (fun hL3=>?_)
   ·have hit:i < l.length:=by have:=hL3;simp [hNl] at this;exact this
    obtain ⟨p,hp⟩:∃ p,l[i]? = some p:=⟨_,gE hit⟩;obtain ⟨hp1,hp2⟩:=hP p (mG hp);have hss:=stepsW_succ (r:=r) hp;obtain ⟨b,hb1⟩:∃ b,(stepsW l r i)[p.1]? = some b:=⟨_,gE (by omega)⟩;have hgd:(stepsW l r i).getD p.1 false=b:=by simp [List.getD_eq_getElem?_getD,hb1]
    rw [stepW,hgd] at hss;refine ⟨_,⟨by omega,dNPs_get hp⟩,?_⟩;refine ⟨⟨by decide,by decide⟩,?_⟩;refine ⟨⟨by omega,by omega⟩,?_⟩;refine ⟨_,(show (cB (stepsW l r i))[0 + (p.1:Int).toNat * 1]? = some (.v (.bool b)) by rw [show 0 + (p.1:Int).toNat * 1=p.1 by omega];exact cB_get hb1),?_⟩;refine br (fun g=>?_) (fun g=>?_)
    ·have g:b=true:=g;rw [if_pos g] at hss;refine ⟨_,⟨by omega,dNPs_get hp⟩,?_⟩;refine ⟨⟨by decide,by decide⟩,?_⟩;refine ⟨⟨by omega,by omega⟩,?_⟩;refine ⟨by rw [cB_len];omega,?_⟩
     have hb2:(cB (stepsW l r i)).set (0 + (p.2:Int).toNat * 1) (DV.v (.bool true))=cB (stepsW l r (i + 1)):=by
      rw [show 0 + (p.2:Int).toNat * 1=p.2 by omega,cB_set,hss]
     exact ⟨ld3St n l e e (stepsW l r (i + 1)) k (i + 1),(weak_b 1 rfl (by repeat' (first | exact rfl | exact we_rfl rfl | exact weL_cB hb2 | exact we_int (nxt hit (by omega)) | refine ⟨_,_,rfl,?_,?_⟩)) rfl rfl rfl (by repeat' (first | exact trivial | exact we_rfl rfl | exact weL_cB hb2 | exact we_int (nxt hit (by omega)) | refine ⟨⟨_,rfl,?_⟩,?_⟩))),l.length - (i + 1),by omega,i + 1,rfl,by omega,rfl⟩
    ·have g:¬ b=true:=by rw [show b=false from g];decide
     rw [if_neg g] at hss;exact ⟨ld3St n l e e (stepsW l r (i + 1)) k (i + 1),(weak_b 1 rfl (by repeat' (first | exact rfl | exact we_rfl rfl | exact weL_cB (by rw [hss]) | exact we_int (nxt hit (by omega)) | refine ⟨_,_,rfl,?_,?_⟩)) rfl rfl rfl (by repeat' (first | exact trivial | exact we_rfl rfl | exact weL_cB (by rw [hss]) | exact we_int (nxt hit (by omega)) | refine ⟨⟨_,rfl,?_⟩,?_⟩))),l.length - (i + 1),by omega,i + 1,rfl,by omega,rfl⟩
   ·have hge:i=l.length:=by have:=hL3;simp [hNl] at this;omega
    subst hge;have hfin:stepsW l r l.length=roundsW l ((List.replicate n false).set e true) (k + 1):=by rw [hrs,stepsW,List.take_length];all_goals rfl
    exact ⟨ld2St n l e e (roundsW l ((List.replicate n false).set e true) (k + 1)) (k + 1),(weak_b 1 rfl (by repeat' (first | exact rfl | exact we_rfl rfl | exact weL_cB (by rw [hfin]) | exact we_int (nxt hkt (by omega)) | refine ⟨_,_,rfl,?_,?_⟩)) rfl rfl rfl (by repeat' (first | exact trivial | exact we_rfl rfl | exact weL_cB (by rw [hfin]) | exact we_int (nxt hkt (by omega)) | refine ⟨⟨_,rfl,?_⟩,?_⟩))),n - (k + 1),by omega,k + 1,rfl,by omega,rfl⟩
  ·have hge:k=n:=by have:=hL2;simp at this;omega
   subst hge;have hrow:roundsW l ((List.replicate k false).set e true) k=rowW k l e:=rfl;rw [hrow];have hrw:=rowW_len k l e;refine OpG.wk (.frz (st':=ldFSt k l e e (rowW k l e)) 0 rfl rfl rfl rfl ?_) rfl rfl ?_
   ·refine ⟨⟨_,rfl,?_⟩,⟨_,rfl,?_⟩,⟨_,rfl,?_⟩,⟨_,rfl,?_⟩,⟨_,rfl,ms_bo hrw (by omega) rfl⟩,trivial⟩
    ·simp only [Cc]
    ·simp only [Cc];exact Or.inr (Or.inl ⟨none,rfl⟩)
    ·simp only [Cc]
    ·simp only [Cc];exact ⟨Nat.zero_lt_one,trivial⟩
   ·have hml:(dMat ((leadsM k l).take e)).length=e:=by rw [dMat_len,List.length_take,hML];omega
    have hsn:dMat ((leadsM k l).take e) ++ [[DV.sl 1 (dBo (rowW k l e)) none]]=dMat ((leadsM k l).take (e + 1)):=by rw [List.take_add_one,leadsM_get l hlt];simp [dMat]
    refine ⟨hml,⟨by rw [hml];simp [maxLen];omega,by rw [hml];simp;omega⟩,?_⟩;exact ⟨ldSt k l (e + 1) (e + 1),(weak_mk ⟨_,rfl⟩ wA rfl rfl rfl (wSB hlt hsn)),k - (e + 1),by omega,e + 1,rfl,by omega,rfl⟩
 ·have hge:e=n:=by have:=hL;simp at this;omega
  subst hge;have ht:(leadsM e l).take e=leadsM e l:=by rw [List.take_of_length_le (by rw [hML];omega)]
  rw [ht];exact ⟨_,ax,rfl⟩
theorem we_bool {n m:Nat} {tk':List TkE} {x y:Bool} (h:x=y):We n m tk' (.v (.bool x)) (.v (.bool y)):=.inl ⟨by rw [h],rfl⟩
theorem nmTx_get {l:List Wd} {j:Nat} {w:Wd} (h:l[j]? = some w):(nmTx l)[j]? = some w.s:=by simp [nmTx,h]
theorem ixOf_no {L:List ByteArray} {s:ByteArray} (h:∀ j,j < L.length->L[j]? ≠ some s):ixOf L s=none:=ixOf_none fun j hj=>by
 exact h j (gS hj).1 hj
abbrev f11St (l:List Wd) (s:ByteArray) (e:Nat):St:=
 ⟨[(0,⟨[],.sl 2 (dWds l) none⟩),(1,⟨[],.v (.string s)⟩),(5,⟨[],.v (.int .i64 e)⟩)],[],[]⟩
theorem find11_spec (l:List Wd) (s:ByteArray) (hs:wdsWt l<=1099511627776) :
  EvP Tryz.prog 291 [.sl 2 (dWds l) none,.v (.string s)] (.v (.int .i64 (oz (ixOf (nmTx l) s)))):=by
 have hsl:=wdsWt_len l;have hnl:=nmTx_len l;refine ev_go (P:=Tryz.prog) tt tt_ok 5000 20 [.tmp 4] Tryz.func291 rfl Tryz.ntmps291 rfl (nL rfl) (fun E9 w9 hn9 hm9=>?_);refine loop_i (fun j st=>∃ e:Nat,st=f11St l s e/\e<=l.length/\(∀ j,j < e->(nmTx l)[j]? ≠ some s)/\j=l.length - e) l.length (f11St l s 0) (weak_mk ⟨_,rfl⟩ wA rfl rfl rfl wB) ⟨0,rfl,by omega,fun _ h=>by omega,by omega⟩ ?_;rintro j st ⟨e,rfl,he,hno,rfl⟩;refine br (fun hL=>?_) (fun hL=>?_)
 ·have hlt:e < l.length:=by simpa [dWds_len] using hL
  obtain ⟨w,hw⟩:∃ w,l[e]? = some w:=⟨_,gE hlt⟩;refine ⟨dWd w,⟨by omega,dWds_get hw⟩,?_⟩;refine br (fun hq=>?_) (fun hq=>?_)
  ·have hq:w.s=s:=by simpa using hq
   rw [ixOf_eq (p:=e) (by rw [nmTx_get hw,hq]) (fun j hj=>Nat.le_of_not_lt fun hl=>hno j hl hj)];exact (rfl:_=_)
  ·have hq:¬ w.s=s:=by simpa using hq
   refine ⟨f11St l s (e + 1),(weak_mk ⟨_,rfl⟩ wA rfl rfl rfl (wNB hlt)),l.length - (e + 1),by omega,e + 1,rfl,by omega,fun j hj=>?_,rfl⟩;rcases Nat.lt_succ_iff_lt_or_eq.1 hj with hj | rfl
   ·exact hno j hj
   ·rw [nmTx_get hw];simpa using hq
 ·have hge:e=l.length:=by have:=hL;simp [dWds_len] at this;omega
  rw [ixOf_no (fun j hj=>hno j (by omega))];exact (rfl:_=_)
theorem oz_neg {o:Option Nat}:decide (oz o < 0)=true↔o=none:=by
 cases o with
 | none=>simp [oz]
 | some k=>
  refine ⟨fun h=>?_,fun h=>by cases h⟩;have:=of_decide_eq_true h;simp only [oz] at this;omega
theorem numF_mem {L:List ByteArray}:∀ {o:List (Wd × Wd)},(numF L o).1=0->∀ x∈o,(∃ a,ixOf L x.1.s=some a)/\∃ b,ixOf L x.2.s=some b
 | [],_,x,hx=>by cases hx
 | p :: r,h,x,hx=>by
  rw [numF] at h;split at h
  ·exact absurd h (by simp)
  rename_i h1;split at h
  ·exact absurd h (by simp)
  rename_i h2;rcases List.mem_cons.1 hx with rfl | hx
  ·exact ⟨Option.ne_none_iff_exists'.1 h1,Option.ne_none_iff_exists'.1 h2⟩
  ·exact numF_mem h x hx
abbrev prsSt (l:List Wd) (o:List (Wd × Wd)) (q e:Nat):St:=
 ⟨[(0,⟨[],.sl 2 (dWds l) none⟩),(1,⟨[],.sl 4 (dPrs o) none⟩),(5,⟨[],.sl 2 (dNPs (numL (nmTx l) (o.take e))) (some 0)⟩),(6,⟨[],.v (.int .i64 e)⟩)],[],[⟨q,386,2,none⟩]⟩
theorem pairs_spec (l:List Wd) (o:List (Wd × Wd)) (hs:wdsWt l<=1099511627776) (hs2:prsWt o<=1099511627776) (hF:(numF (nmTx l) o).1=0) :
  EvP Tryz.prog 197 [.sl 2 (dWds l) none,.sl 4 (dPrs o) none] (.sl 2 (dNPs (numL (nmTx l) o)) none):=by
 have hsl:=prsWt_len o;refine ev_go (P:=Tryz.prog) tt tt_ok 5000 34 [.tmp 4] Tryz.func197 rfl Tryz.ntmps197 rfl (nL rfl) (fun E9 w9 hn9 hm9=>?_);refine loop_i (fun j st=>∃ e:Nat,st=prsSt l o e e/\e<=o.length/\j=o.length - e) o.length (prsSt l o 0 0) (weak_tok ⟨0,386,2,none⟩ rfl ⟨_,rfl⟩ rfl wA rfl rfl wTB) ⟨0,rfl,by omega,by omega⟩ ?_;rintro j st ⟨e,rfl,he,rfl⟩;refine br (fun hL=>?_) (fun hL=>?_)
 ·have hlt:e < o.length:=by simpa [dPrs_len] using hL
  obtain ⟨w,hw⟩:∃ w,o[e]? = some w:=⟨_,gE hlt⟩;obtain ⟨⟨a,ha⟩,⟨b,hb⟩⟩:=numF_mem hF w (mG hw);have hf1:=find11_spec l w.1.s hs;have hf2:=find11_spec l w.2.s hs;rw [ha] at hf1;rw [hb] at hf2;refine drawG_i (fun _=>false) mo (by decide +kernel) ?_;refine ⟨dPr w,⟨by omega,dPrs_get hw⟩,?_⟩;refine callD_p en291 (hf1) ax rfl ?_;refine ⟨dPr w,⟨by omega,dPrs_get hw⟩,?_⟩;refine callD_p en291 (hf2) ax rfl ?_;refine ⟨by simp [dNPs_len,numL];omega,⟨by simp [dNPs_len,numL,maxLen];omega,by simp [dNPs_len,numL];omega⟩,?_⟩;exact ⟨prsSt l o (e + 1) (e + 1),(weak_mk ⟨_,rfl⟩ wA rfl rfl rfl (by repeat' (first | exact trivial | exact we_rfl rfl | exact we_int (nxt hlt (by omega)) | exact we_sl (numL_snoc hw ha hb) rfl | refine ⟨⟨_,rfl,?_⟩,?_⟩))),o.length - (e + 1),by omega,e + 1,rfl,by omega,rfl⟩
 ·have hge:e=o.length:=by
   have:=hL;simp [dPrs_len] at this;omega
  have ht:o.take e=o:=by rw [hge,List.take_length]
  rw [ht];exact ⟨_,ax,rfl⟩
theorem leq_spec (l:List Wd) (o:List (Wd × Wd)) (hl:l.length<=32) (hs:wdsWt l<=1099511627776) (hs2:prsWt o<=1099511627776) (hF:(numF (nmTx l) o).1=0) :
  EvP Tryz.prog 86 [.sl 2 (dWds l) none,.sl 4 (dPrs o) none] (.sl 1 (dMat (matB l.length (leqN l.length (numL (nmTx l) o)))) none):=by
 have hsl:=prsWt_len o;have hP:PrOK l.length (numL (nmTx l) o):=by have:=numF_ok hF;rwa [nmTx_len] at this
 have hN:=dWds_len l;have hld:=leads_spec l.length (by omega) (numL (nmTx l) o) hP (by simp [numL];omega);rw [leadsM_eq hP] at hld;refine ev_go (P:=Tryz.prog) tt tt_ok 5000 11 [.tmp 4] Tryz.func86 rfl Tryz.ntmps86 rfl (nL rfl) (fun E9 w9 hn9 hm9=>?_);refine call_p en197 (pairs_spec l o hs hs2 hF) ax rfl ?_;rw [hN];refine call_p en196 (hld) ax rfl ?_;exact ⟨_,ax,rfl⟩
theorem matB_len (n:Nat) (f:Nat->Nat->Bool):(matB n f).length=n:=by simp [matB]
theorem dMatB_len (n:Nat) (f:Nat->Nat->Bool):(dMat (matB n f)).length=n:=by rw [dMat_len,matB_len]
theorem mrow_get {n:Nat} {f:Nat->Nat->Bool} {a:Nat} (ha:a < n):(dMat (matB n f))[a]? = some [DV.sl 1 (dBo ((List.range n).map (f a))) none]:=dMat_get (matB_row ha)
theorem mcell_get {n:Nat} {f:Nat->Nat->Bool} {a b:Nat} (hb:b < n):(dBo ((List.range n).map (f a)))[b]? = some [DV.v (.bool (f a b))]:=dBo_get (by simp [List.getElem?_range hb])
abbrev l10St (n:Nat) (f:Nat->Nat->Bool) (e:Nat):St:=
 ⟨[(0,⟨[],.sl 1 (dMat (matB n f)) none⟩),(3,⟨[],.v (.int .i64 e)⟩)],[],[]⟩
abbrev l10bSt (n:Nat) (f:Nat->Nat->Bool) (e k:Nat):St:=
 ⟨[(0,⟨[],.sl 1 (dMat (matB n f)) none⟩),(3,⟨[],.v (.int .i64 e)⟩),(4,⟨[],.v (.int .i64 k)⟩)],[],[]⟩
theorem loop10_spec (n:Nat) (f:Nat->Nat->Bool) (hn:n<=64) :
  EvP Tryz.prog 292 [.sl 1 (dMat (matB n f)) none] (.v (.int .i64 (oz (firstN (loopP n f) n)))):=by
 have hml:=dMatB_len n f;refine ev_go (P:=Tryz.prog) tt tt_ok 5000 39 [.tmp 2] Tryz.func292 rfl Tryz.ntmps292 rfl (nL rfl) (fun E9 w9 hn9 hm9=>?_);refine loop_i (fun j st=>∃ e:Nat,st=l10St n f e/\e<=n/\(∀ a,a < e->loopP n f a=false)/\j=n - e) n (l10St n f 0) (weak_mk ⟨_,rfl⟩ wA rfl rfl rfl wB) ⟨0,rfl,by omega,fun _ h=>by omega,by omega⟩ ?_;rintro j st ⟨e,rfl,he,hno,rfl⟩;refine br (fun hL=>?_) (fun hL=>?_)
 ·have hlt:e < n:=by simpa [hml] using hL
  refine loop_i (fun j st=>∃ k:Nat,st=l10bSt n f e k/\k<=n/\(∀ b,b < k->(decide (e≠b) && (f e b && f b e))=false)/\j=n - k) n (l10bSt n f e 0) (weak_mk ⟨_,rfl⟩ wA rfl rfl rfl wB) ⟨0,rfl,by omega,fun _ h=>by omega,by omega⟩ ?_;rintro j st ⟨k,rfl,hk,hno2,rfl⟩;refine br (fun hL2=>?_) (fun hL2=>?_)
  ·have hkt:k < n:=by simpa [hml] using hL2
   have hstep:(decide (e≠k) && (f e k && f k e))=false->∀ b,b < k + 1->(decide (e≠b) && (f e b && f b e))=false:=fun h b hb=>by
    rcases Nat.lt_succ_iff_lt_or_eq.1 hb with hb | rfl
    ·exact hno2 b hb
    ·exact h
   refine br (fun g1=>?_) (fun g1=>?_)
   ·have g1:e≠k:=by have:=g1;simp at this;omega
    refine ⟨_,⟨by omega,mrow_get hlt⟩,?_⟩;refine ⟨_,⟨by omega,mcell_get hkt⟩,?_⟩;refine br (fun g2=>?_) (fun g2=>?_)
    ·have g2:f e k=true:=by simpa [pickB] using g2
     refine ⟨_,⟨by omega,mrow_get hkt⟩,?_⟩;refine ⟨_,⟨by omega,mcell_get hlt⟩,?_⟩;refine br (fun g3=>?_) (fun g3=>?_)
     ·have g3:f k e=true:=by simpa [pickB] using g3
      have hp:loopP n f e=true:=List.any_eq_true.2 ⟨k,List.mem_range.2 hkt,by simp [g1,g2,g3]⟩;rw [firstN_some hlt hp hno];exact (rfl:_=_)
     ·have g3:f k e=false:=by simpa [pickB] using g3
      exact ⟨l10bSt n f e (k + 1),(weak_mk ⟨_,rfl⟩ wA rfl rfl rfl (wNB hkt)),n - (k + 1),by omega,k + 1,rfl,by omega,hstep (by simp [g3]),rfl⟩
    ·have g2:f e k=false:=by simpa [pickB] using g2
     exact ⟨l10bSt n f e (k + 1),(weak_mk ⟨_,rfl⟩ wA rfl rfl rfl (wNB hkt)),n - (k + 1),by omega,k + 1,rfl,by omega,hstep (by simp [g2]),rfl⟩
   ·have g1:e=k:=by have:=g1;simp at this;omega
    exact ⟨l10bSt n f e (k + 1),(weak_mk ⟨_,rfl⟩ wA rfl rfl rfl (wNB hkt)),n - (k + 1),by omega,k + 1,rfl,by omega,hstep (by simp [g1]),rfl⟩
  ·have hge:k=n:=by have:=hL2;simp [hml] at this;omega
   refine ⟨l10St n f (e + 1),(weak_mk ⟨_,rfl⟩ wA rfl rfl rfl (wNB hlt)),n - (e + 1),by omega,e + 1,rfl,by omega,fun j hj=>?_,rfl⟩;rcases Nat.lt_succ_iff_lt_or_eq.1 hj with hj | rfl
   ·exact hno j hj
   ·unfold loopP;rw [List.any_eq_false];intro b hb;rw [hno2 b (by have:=List.mem_range.1 hb;omega)];decide
 ·have hge:e=n:=by have:=hL;simp [hml] at this;omega
  subst hge;rw [firstN_none hno];exact (rfl:_=_)
abbrev tuSt (n:Nat) (f:Nat->Nat->Bool) (q e:Nat):St:=
 ⟨[(0,⟨[],.sl 1 (dMat (matB n f)) none⟩),(3,⟨[],.sl 1 (dMat ((matB n fun a b=>f b a).take e)) (some 0)⟩),(4,⟨[],.v (.int .i64 e)⟩)],[],[⟨q,166,1,none⟩]⟩
abbrev tu2St (n:Nat) (f:Nat->Nat->Bool) (q e:Nat) (r:List Bool) (k:Nat):St:=
 ⟨[(0,⟨[],.sl 1 (dMat (matB n f)) none⟩),(3,⟨[],.sl 1 (dMat ((matB n fun a b=>f b a).take e)) (some 0)⟩),(4,⟨[],.v (.int .i64 e)⟩),(5,⟨[],.ms 0 1 0 n n⟩),(6,⟨[],.v (.int .i64 k)⟩)],[cB r],[⟨q,166,1,none⟩]⟩
abbrev tuFSt (n:Nat) (f:Nat->Nat->Bool) (q e:Nat) (r:List Bool):St:=
 ⟨[(0,⟨[],.sl 1 (dMat (matB n f)) none⟩),(4,⟨[],.v (.int .i64 e)⟩),(32,⟨[],.sl 1 (dMat ((matB n fun a b=>f b a).take e)) (some 0)⟩),(33,⟨[],.sl 1 (dBo r) none⟩)],[],[⟨q,166,1,none⟩]⟩
def turnR (n:Nat) (f:Nat->Nat->Bool) (e k:Nat):List Bool:=(List.range n).map fun b=>if b < k then f b e else false
theorem turnR_len (n:Nat) (f:Nat->Nat->Bool) (e k:Nat):(turnR n f e k).length=n:=by simp [turnR]
theorem turnR_zero (n:Nat) (f:Nat->Nat->Bool) (e:Nat):turnR n f e 0=List.replicate n false:=by
 refine List.ext_getElem? fun i=>?_;by_cases h:i < n
 ·simp [turnR,List.getElem?_range h,List.getElem?_replicate,h]
 ·rw [List.getElem?_eq_none (by rw [turnR_len];omega),List.getElem?_eq_none (by simp;omega)]
theorem turnR_succ (n:Nat) (f:Nat->Nat->Bool) (e k:Nat):(turnR n f e k).set k (f k e)=turnR n f e (k + 1):=by
 refine List.ext_getElem? fun i=>?_;by_cases h:i < n
 ·rw [List.getElem?_set];simp only [turnR,List.getElem?_map,List.getElem?_range h,Option.map_some,List.length_map,List.length_range];by_cases hk:k=i
  ·subst hk;simp [h]
  ·rw [if_neg hk];by_cases hi:i < k
   ·rw [if_pos hi,if_pos (by omega)]
   ·rw [if_neg hi,if_neg (by omega)]
 ·rw [List.getElem?_eq_none (by simp [turnR];omega),List.getElem?_eq_none (by rw [turnR_len];omega)]
theorem turnR_full (n:Nat) (f:Nat->Nat->Bool) (e:Nat):turnR n f e n=(List.range n).map (fun b=>f b e):=by
 unfold turnR;exact List.map_congr_left fun b hb=>by rw [if_pos (List.mem_range.1 hb)]
theorem turn_spec (n:Nat) (f:Nat->Nat->Bool) (hn:n<=64) :
  EvP Tryz.prog 293 [.sl 1 (dMat (matB n f)) none] (.sl 1 (dMat (matB n fun a b=>f b a)) none):=by
 have hml:=dMatB_len n f;have hML:=matB_len n fun a b=>f b a;refine ev_go (P:=Tryz.prog) tt tt_ok 5000 37 [.tmp 2] Tryz.func293 rfl Tryz.ntmps293 rfl (nL rfl) (fun E9 w9 hn9 hm9=>?_);refine loop_i (fun j st=>∃ e:Nat,st=tuSt n f e e/\e<=n/\j=n - e) n (tuSt n f 0 0) (weak_tok ⟨0,166,1,none⟩ rfl ⟨_,rfl⟩ rfl wA rfl rfl wTB) ⟨0,rfl,by omega,by omega⟩ ?_;rintro j st ⟨e,rfl,he,rfl⟩;refine br (fun hL=>?_) (fun hL=>?_)
 ·have hlt:e < n:=by simpa [hml] using hL
  refine ⟨⟨rfl,by omega,by rw [hml];omega,by rw [hml];omega⟩,?_⟩;rw [hml]
  have hb0:(List.replicate (n:Int).toNat (vL [Value.bool false])).flatten=cB (turnR n f e 0):=by
   rw [repB,turnR_zero,show (n:Int).toNat=n by omega]
  refine loop_i (fun j st=>∃ k:Nat,st=tu2St n f e e (turnR n f e k) k/\k<=n/\j=n - k) n (tu2St n f e e (turnR n f e 0) 0) (weak_b 1 rfl (by repeat' (first | exact rfl | exact we_rfl rfl | exact weL_cB hb0 | refine ⟨_,_,rfl,?_,?_⟩)) rfl rfl rfl (by repeat' (first | exact trivial | exact we_rfl rfl | exact weL_cB hb0 | refine ⟨⟨_,rfl,?_⟩,?_⟩))) ⟨0,rfl,by omega,by omega⟩ ?_;rintro j st ⟨k,rfl,hk,rfl⟩;refine br (fun hL2=>?_) (fun hL2=>?_)
  ·have hkt:k < n:=by simpa [hml] using hL2
   refine ⟨_,⟨by omega,mrow_get hkt⟩,?_⟩;refine ⟨_,⟨by omega,mcell_get hlt⟩,?_⟩;refine ⟨⟨by omega,by omega⟩,?_⟩;refine ⟨by rw [cB_len,turnR_len];omega,?_⟩
   have hb2:(cB (turnR n f e k)).set (0 + (k:Int).toNat * 1) (DV.v (.bool (f (k:Int).toNat (e:Int).toNat)))=cB (turnR n f e (k + 1)):=by
    rw [show 0 + (k:Int).toNat * 1=k by omega,cB_set,Int.toNat_natCast,Int.toNat_natCast,turnR_succ]
   exact ⟨tu2St n f e e (turnR n f e (k + 1)) (k + 1),(weak_b 1 rfl (by repeat' (first | exact rfl | exact we_rfl rfl | exact weL_cB hb2 | exact we_int (nxt hkt (by omega)) | refine ⟨_,_,rfl,?_,?_⟩)) rfl rfl rfl (by repeat' (first | exact trivial | exact we_rfl rfl | exact weL_cB hb2 | exact we_int (nxt hkt (by omega)) | refine ⟨⟨_,rfl,?_⟩,?_⟩))),n - (k + 1),by omega,k + 1,rfl,by omega,rfl⟩
  ·have hge:k=n:=by have:=hL2;simp [hml] at this;omega
   subst hge;rw [turnR_full];refine OpG.wk (.frz (st':=tuFSt k f e e ((List.range k).map fun b=>f b e)) 0 rfl rfl rfl rfl ?_) rfl rfl ?_
   ·refine ⟨⟨_,rfl,?_⟩,⟨_,rfl,?_⟩,⟨_,rfl,?_⟩,⟨_,rfl,ms_bo (by simp) (by omega) rfl⟩,trivial⟩
    ·simp only [Cc];exact Or.inr (Or.inl ⟨none,rfl⟩)
    ·simp only [Cc]
    ·simp only [Cc];exact ⟨Nat.zero_lt_one,trivial⟩
   ·have hmr:(dMat ((matB k fun a b=>f b a).take e)).length=e:=by rw [dMat_len,List.length_take,hML];omega
    have hsn:dMat ((matB k fun a b=>f b a).take e) ++ [[DV.sl 1 (dBo ((List.range k).map fun b=>f b e)) none]]=dMat ((matB k fun a b=>f b a).take (e + 1)):=by rw [List.take_add_one,matB_row hlt];simp [dMat]
    refine ⟨hmr,⟨by rw [hmr];simp [maxLen];omega,by rw [hmr];simp;omega⟩,?_⟩;exact ⟨tuSt k f (e + 1) (e + 1),(weak_mk ⟨_,rfl⟩ wA rfl rfl rfl (wSB hlt hsn)),k - (e + 1),by omega,e + 1,rfl,by omega,rfl⟩
 ·have hge:e=n:=by have:=hL;simp [hml] at this;omega
  subst hge;rw [List.take_of_length_le (by rw [hML];omega)];exact ⟨_,ax,rfl⟩
def isJ (f:Nat->Nat->Bool) (n a b c:Nat):Bool:=(f a c && f b c) && (List.range n).all fun d=>!(f a d && f b d) || f c d
def joinR (f:Nat->Nat->Bool) (n a b:Nat):Option Nat:=firstN (isJ f n a b) n
def isJk (f:Nat->Nat->Bool) (a b c k:Nat):Bool:=(f a c && f b c) && (List.range k).all fun d=>!(f a d && f b d) || f c d
theorem isJk_succ (f:Nat->Nat->Bool) (a b c k:Nat):isJk f a b c (k + 1)=(isJk f a b c k && (!(f a k && f b k) || f c k)):=by
 simp only [isJk,List.range_succ,List.all_append,List.all_cons,List.all_nil,Bool.and_true,Bool.and_assoc]
theorem isJk_zero (f:Nat->Nat->Bool) (a b c:Nat):isJk f a b c 0=(f a c && f b c):=by simp [isJk]
abbrev jnSt (n:Nat) (f:Nat->Nat->Bool) (a b e:Nat):St:=
 ⟨[(0,⟨[],.sl 1 (dMat (matB n f)) none⟩),(1,⟨[],.v (.int .i64 a)⟩),(2,⟨[],.v (.int .i64 b)⟩),(7,⟨[],.v (.int .i64 e)⟩)],[],[]⟩
abbrev jn2St (n:Nat) (f:Nat->Nat->Bool) (a b e:Nat) (x:Bool) (k:Nat):St:=
 ⟨[(0,⟨[],.sl 1 (dMat (matB n f)) none⟩),(1,⟨[],.v (.int .i64 a)⟩),(2,⟨[],.v (.int .i64 b)⟩),(7,⟨[],.v (.int .i64 e)⟩),(8,⟨[],.v (.bool x)⟩),(9,⟨[],.v (.int .i64 k)⟩)],[],[]⟩
theorem join11_spec (n:Nat) (f:Nat->Nat->Bool) (hn:n<=64) (a b:Nat) (ha:a < n) (hb:b < n) :
  EvP Tryz.prog 252 [.sl 1 (dMat (matB n f)) none,.v (.int .i64 a),.v (.int .i64 b)] (.v (.int .i64 (oz (joinR f n a b)))):=by
 have hml:=dMatB_len n f;refine ev_go (P:=Tryz.prog) tt tt_ok 5000 66 [.tmp 6] Tryz.func252 rfl Tryz.ntmps252 rfl (nL rfl) (fun E9 w9 hn9 hm9=>?_);refine loop_i (fun j st=>∃ e:Nat,st=jnSt n f a b e/\e<=n/\(∀ c,c < e->isJ f n a b c=false)/\j=n - e) n (jnSt n f a b 0) (weak_mk ⟨_,rfl⟩ wA rfl rfl rfl wB) ⟨0,rfl,by omega,fun _ h=>by omega,by omega⟩ ?_;rintro j st ⟨e,rfl,he,hno,rfl⟩;refine br (fun hL=>?_) (fun hL=>?_)
 ·have hlt:e < n:=by simpa [hml] using hL
  refine ⟨_,⟨by omega,mrow_get ha⟩,?_⟩;refine ⟨_,⟨by omega,mcell_get hlt⟩,?_⟩;have e1:(f a e == true)=true->f b e=isJk f a b e 0:=fun g=>by rw [isJk_zero,show f a e=true by simpa using g];simp
  have e2:(f a e == true)=false->false=isJk f a b e 0:=fun g=>by rw [isJk_zero,show f a e=false by simpa using g];simp
  refine have body:=?_;br (fun g1=>⟨_,⟨by omega,mrow_get hb⟩,⟨_,⟨by omega,mcell_get hlt⟩,loop_i (fun j st=>∃ k:Nat,st=jn2St n f a b e (isJk f a b e k) k/\k<=n/\j=n - k) n (jn2St n f a b e (isJk f a b e 0) 0) (weak_mk ⟨_,rfl⟩ wA rfl rfl rfl (by repeat' (first | exact trivial | exact we_rfl rfl | exact (show We _ _ _ (DV.v (.bool (f b e))) _ from we_bool (e1 g1)) | refine ⟨⟨_,rfl,?_⟩,?_⟩))) ⟨0,rfl,by omega,by omega⟩ body⟩⟩) (fun g1=>loop_i (fun j st=>∃ k:Nat,st=jn2St n f a b e (isJk f a b e k) k/\k<=n/\j=n - k) n (jn2St n f a b e (isJk f a b e 0) 0) (weak_mk ⟨_,rfl⟩ wA rfl rfl rfl (by repeat' (first | exact trivial | exact we_rfl rfl | exact (show We _ _ _ (DV.v (.bool false)) _ from we_bool (e2 g1)) | refine ⟨⟨_,rfl,?_⟩,?_⟩))) ⟨0,rfl,by omega,by omega⟩ body);rintro j st ⟨k,rfl,hk,rfl⟩;refine br (fun hL2=>?_) (fun hL2=>?_)
  ·have hkt:k < n:=by simpa [hml] using hL2
   have hsu:=isJk_succ f a b e k;refine ⟨_,⟨by omega,mrow_get ha⟩,?_⟩;refine ⟨_,⟨by omega,mcell_get hkt⟩,?_⟩;refine br (fun g1=>?_) (fun g1=>?_)
   ·refine ⟨_,⟨by omega,mrow_get hb⟩,?_⟩;refine ⟨_,⟨by omega,mcell_get hkt⟩,?_⟩;refine br (fun g2=>?_) (fun g2=>?_)
    ·refine ⟨_,⟨by omega,mrow_get hlt⟩,?_⟩;refine ⟨_,⟨by omega,mcell_get hkt⟩,?_⟩;refine br (fun g3=>?_) (fun g3=>?_)
     ·have hx:false=isJk f a b e (k + 1):=by simp [pickB] at g1 g2 g3;rw [hsu];simp [g1,g2,g3]
      exact ⟨jn2St n f a b e (isJk f a b e (k + 1)) (k + 1),(weak_mk ⟨_,rfl⟩ wA rfl rfl rfl (by repeat' (first | exact trivial | exact we_rfl rfl | exact we_int (nxt hkt (by omega)) | exact we_bool hx | refine ⟨⟨_,rfl,?_⟩,?_⟩))),n - (k + 1),by omega,k + 1,rfl,by omega,rfl⟩
     ·have hx:isJk f a b e k=isJk f a b e (k + 1):=by simp [pickB] at g1 g2 g3;rw [hsu];simp [g1,g2,g3]
      exact ⟨jn2St n f a b e (isJk f a b e (k + 1)) (k + 1),(weak_mk ⟨_,rfl⟩ wA rfl rfl rfl (by repeat' (first | exact trivial | exact we_rfl rfl | exact we_int (nxt hkt (by omega)) | exact we_bool hx | refine ⟨⟨_,rfl,?_⟩,?_⟩))),n - (k + 1),by omega,k + 1,rfl,by omega,rfl⟩
    ·have hx:isJk f a b e k=isJk f a b e (k + 1):=by simp [pickB] at g1 g2;rw [hsu];simp [g1,g2]
     exact ⟨jn2St n f a b e (isJk f a b e (k + 1)) (k + 1),(weak_mk ⟨_,rfl⟩ wA rfl rfl rfl (by repeat' (first | exact trivial | exact we_rfl rfl | exact we_int (nxt hkt (by omega)) | exact we_bool hx | refine ⟨⟨_,rfl,?_⟩,?_⟩))),n - (k + 1),by omega,k + 1,rfl,by omega,rfl⟩
   ·have hx:isJk f a b e k=isJk f a b e (k + 1):=by simp [pickB] at g1;rw [hsu];simp [g1]
    exact ⟨jn2St n f a b e (isJk f a b e (k + 1)) (k + 1),(weak_mk ⟨_,rfl⟩ wA rfl rfl rfl (by repeat' (first | exact trivial | exact we_rfl rfl | exact we_int (nxt hkt (by omega)) | exact we_bool hx | refine ⟨⟨_,rfl,?_⟩,?_⟩))),n - (k + 1),by omega,k + 1,rfl,by omega,rfl⟩
  ·have hge:k=n:=by have:=hL2;simp [hml] at this;omega
   subst hge;refine br (fun g=>?_) (fun g=>?_)
   ·have g:isJ f k a b e=true:=g;rw [joinR,firstN_some hlt g hno];exact (rfl:_=_)
   ·have g:isJ f k a b e=false:=g;refine ⟨jnSt k f a b (e + 1),(weak_mk ⟨_,rfl⟩ wA rfl rfl rfl (wNB hlt)),k - (e + 1),by omega,e + 1,rfl,by omega,fun j hj=>?_,rfl⟩;rcases Nat.lt_succ_iff_lt_or_eq.1 hj with hj | rfl
    ·exact hno j hj
    ·exact g
 ·have hge:e=n:=by have:=hL;simp [hml] at this;omega
  subst hge;rw [joinR,firstN_none hno];exact (rfl:_=_)
theorem dup_ix {l:List Wd} {i:Nat} {w:Wd} (hw:l[i]? = some w):∃ p,ixOf (nmTx l) w.s=some p/\(p < i↔dupBefore (l.take i) w.s=true):=by
 cases h:ixOf (nmTx l) w.s with
 | none=>exact absurd (mG (nmTx_get hw)) (ixOf_none_iff.1 h)
 | some p=>
  refine ⟨p,rfl,?_⟩;obtain ⟨h1,h2,h3⟩:=ixOf_some h;rw [nmTx_len] at h1
  have h2':∃ v,l[p]? = some v/\v.s=w.s:=by
   refine ⟨l[p],gE h1,?_⟩;rw [nmTx_get (gE h1)] at h2;exact Option.some.inj h2
  obtain ⟨v,hv,hvs⟩:=h2';unfold dupBefore;rw [List.any_eq_true];refine ⟨fun hlt=>⟨v,mG (i:=p) (by rw [List.getElem?_take,if_pos hlt];exact hv),by simp [hvs]⟩,fun ⟨x,hx,hxs⟩=>?_⟩;obtain ⟨j,hj⟩:=List.getElem?_of_mem hx;rw [List.getElem?_take] at hj;split at hj
  ·rename_i hji;have hxs:x.s=w.s:=by simpa using hxs
   have:=h3 j (by rw [nmTx_get hj,hxs]);omega
  ·cases hj
theorem isJ_iff {f:Nat->Nat->Bool} {n a b c:Nat}:isJ f n a b c=true↔f a c=true/\f b c=true/\∀ d,d < n->f a d=true->f b d=true->f c d=true:=by
 unfold isJ;simp only [Bool.and_eq_true,List.all_eq_true,List.mem_range,Bool.or_eq_true,Bool.not_eq_true',Bool.and_eq_false_iff,and_assoc];refine and_congr_right fun _=>and_congr_right fun _=>forall_congr' fun d=>imp_congr_right fun _=>?_;cases f a d<;>cases f b d<;>cases f c d<;>simp
structure PoB (f:Nat->Nat->Bool) (n:Nat):Prop where
 rfl':∀ a,a < n->f a a=true
 anti:∀ a b,a < n->b < n->f a b=true->f b a=true->a=b
theorem PoB.flip {f:Nat->Nat->Bool} {n:Nat} (h:PoB f n):PoB (fun x y=>f y x) n:=⟨h.rfl',fun a b ha hb h1 h2=>h.anti a b ha hb h2 h1⟩
theorem joinN_of {f:Nat->Nat->Bool} {n a b c:Nat} (h:PoB f n) (hc:c < n) (hj:isJ f n a b c=true):joinN f n a b=some c:=by
 obtain ⟨h1,h2,h3⟩:=isJ_iff.1 hj
 have key:∀ e,e<=n->c < e->bestA (fun c=>f a c && f b c) f e=some c:=by
  intro e
  induction e with
  | zero=>intro _ h;omega
  | succ e ih=>
   intro he hce;rw [bestA];by_cases hec:e=c
   ·subst hec;rw [if_pos];simp only [h1,h2,Bool.and_true,Bool.true_and]
    cases ho:bestA (fun c=>f a c && f b c) f e with
    | none=>rfl
    | some o=>
     have hp:=bestA_pin ho;have hl:=bestA_lt ho;simp only [Bool.and_eq_true] at hp;exact h3 o (by omega) hp.1 hp.2
   ·rw [ih (by omega) (by omega),if_neg];simp only [Bool.and_eq_true,bestC,not_and];intro hp hec2;exact hec (h.anti e c (by omega) hc hec2 (h3 e (by omega) hp.1 hp.2))
 unfold joinN bestN;rw [key n (Nat.le_refl _) hc];simp only;rw [if_neg];simp only [List.any_eq_true,List.mem_range,Bool.and_eq_true,Bool.not_eq_true',not_exists,not_and,Bool.not_eq_false];exact fun d hd hp=>h3 d hd hp.1 hp.2
theorem joinN_isNone {f:Nat->Nat->Bool} {n a b:Nat} (h:PoB f n):(joinN f n a b).isNone=(joinR f n a b).isNone:=by
 cases hj:joinR f n a b with
 | some c=>
  obtain ⟨hc,hi,_⟩:=firstN_spec hj;rw [joinN_of h hc hi]
 | none=>
  cases hk:joinN f n a b with
  | none=>rfl
  | some k=>
   obtain ⟨h1,h2,h3,h4⟩:=joinN_spec hk;have:=firstN_none_iff hj k h1;rw [isJ_iff.2 ⟨h2,h3,h4⟩] at this;cases this
def lackR (f:Nat->Nat->Bool) (n a b:Nat):Bool:=(joinR f n a b).isNone || (joinR (fun x y=>f y x) n a b).isNone
theorem lack_eq {f:Nat->Nat->Bool} {n a b:Nat} (h:PoB f n):lackB f n a b=lackR f n a b:=by
 unfold lackB lackR;rw [joinN_isNone h,show meetN f n a b=joinN (fun x y=>f y x) n a b from rfl,joinN_isNone h.flip]
theorem joinR_refl {f:Nat->Nat->Bool} {n b:Nat} (h:PoB f n) (hb:b < n):(joinR f n b b).isNone=false:=by
 have hi:isJ f n b b b=true:=isJ_iff.2 ⟨h.rfl' b hb,h.rfl' b hb,fun d _ h1 _=>h1⟩
 cases hj:joinR f n b b with
 | some c=>rfl
 | none=>rw [firstN_none_iff hj b hb] at hi;cases hi
theorem bndP_eq {f:Nat->Nat->Bool} {n b:Nat} (h:PoB f n) (hb:b < n):bndP f n b=(List.range b).any fun a=>lackR f n a b:=by
 unfold bndP;rw [List.range_succ,List.any_append];simp only [List.any_cons,List.any_nil,Bool.or_false];rw [lack_eq h,show lackR f n b b=false by unfold lackR;rw [joinR_refl h hb,joinR_refl h.flip hb];rfl,Bool.or_false];exact congrArg (fun g=>List.any (List.range b) g) (funext fun a=>lack_eq h)
theorem poB_of {n:Nat} {l:List (Nat × Nat)} (hP:PrOK n l) (h4:firstN (loopP n (leqN n l)) n=none):PoB (leqN n l) n where
 rfl':=fun a ha=>leqN_refl hP ha
 anti:=fun a b ha hb h6 h7=>by
  have:=firstN_none_iff h4 a ha;unfold loopP at this;rw [List.any_eq_false] at this;have:=this b (by simpa using hb);simp only [Bool.and_eq_true,decide_eq_true_eq,not_and] at this;rcases Nat.lt_trichotomy a b with h8 | h8 | h8
  ·exact (this (by omega) h6 h7).elim
  ·exact h8
  ·exact (this (by omega) h6 h7).elim
abbrev wr1St (l:List Wd) (o:List (Wd × Wd)) (e:Nat):St:=
 ⟨[(0,⟨[],.sl 2 (dWds l) none⟩),(1,⟨[],.sl 4 (dPrs o) none⟩),(4,⟨[],.loc 0 0⟩),(5,⟨[],.v (.int .i64 e)⟩)],[[.v (.int .i64 0),.v (.int .i64 0)]],[]⟩
abbrev wr2St (l:List Wd) (o:List (Wd × Wd)) (e:Nat):St:=
 ⟨[(0,⟨[],.sl 2 (dWds l) none⟩),(1,⟨[],.sl 4 (dPrs o) none⟩),(4,⟨[],.loc 0 0⟩),(6,⟨[],.v (.int .i64 e)⟩)],[[.v (.int .i64 0),.v (.int .i64 0)]],[]⟩
abbrev wr3St (l:List Wd) (n:Nat) (f:Nat->Nat->Bool) (e:Nat):St:=
 ⟨[(0,⟨[],.sl 2 (dWds l) none⟩),(4,⟨[],.loc 0 0⟩),(7,⟨[],.sl 1 (dMat (matB n f)) none⟩),(9,⟨[],.sl 1 (dMat (matB n fun a b=>f b a)) none⟩),(10,⟨[],.v (.int .i64 e)⟩)],[[.v (.int .i64 0),.v (.int .i64 0)]],[]⟩
abbrev wr4St (l:List Wd) (n:Nat) (f:Nat->Nat->Bool) (e k:Nat):St:=
 ⟨[(0,⟨[],.sl 2 (dWds l) none⟩),(4,⟨[],.loc 0 0⟩),(7,⟨[],.sl 1 (dMat (matB n f)) none⟩),(9,⟨[],.sl 1 (dMat (matB n fun a b=>f b a)) none⟩),(10,⟨[],.v (.int .i64 e)⟩),(11,⟨[],.v (.int .i64 k)⟩)],[[.v (.int .i64 0),.v (.int .i64 0)]],[]⟩
theorem wrong11_spec (l:List Wd) (o:List (Wd × Wd)) (hs:wdsWt l<=1099511627776) (hs2:prsWt o<=1099511627776) :
  EvP Tryz.prog 173 [.sl 2 (dWds l) none,.sl 4 (dPrs o) none] (latF l o).d:=by
 have hsl:=wdsWt_len l;have hsl2:=prsWt_len o;have hF:latF l o=latF l o:=rfl
 conv at hF=>rhs;unfold latF
 refine ev_go (P:=Tryz.prog) tt tt_ok 5000 150 [.cell 4 46] Tryz.func173 rfl Tryz.ntmps173 rfl (nL rfl) (fun E9 w9 hn9 hm9=>?_);generalize latF l o=F at hF ⊢;refine br (fun h=>?_) (fun h=>?_)
 ·have h:l=[]:=by simpa [dWds_len] using h
  rw [show manyF l o=(15,0) by rw [manyF,if_pos h],if_pos (by decide)] at hF;refine ⟨_,?_,rfl⟩;rw [hF];exact ax
 have h:¬ l=[]:=by simpa [dWds_len] using h
 refine br (fun h1=>?_) (fun h1=>?_)
 ·have h1:32 < l.length:=by simp [dWds_len] at h1;omega
  obtain ⟨x,hx⟩:∃ x,l[32]? = some x:=⟨_,gE h1⟩;rw [show manyF l o=(8,x.a) by rw [manyF,if_neg h,if_pos h1,hx];rfl,if_pos (by simp)] at hF;refine ⟨dWd x,⟨by omega,dWds_get hx⟩,?_⟩;refine ⟨_,?_,rfl⟩;rw [hF];exact ax
 have h1:¬ 32 < l.length:=by simp [dWds_len] at h1;omega
 refine br (fun h2=>?_) (fun h2=>?_)
 ·have h2:256 < o.length:=by simp [dPrs_len] at h2;omega
  obtain ⟨x,hx⟩:∃ x,o[256]? = some x:=⟨_,gE h2⟩;rw [show manyF l o=(8,x.1.a) by rw [manyF,if_neg h,if_neg h1,if_pos h2,hx];rfl,if_pos (by simp)] at hF;refine ⟨dPr x,⟨by omega,dPrs_get hx⟩,?_⟩;refine ⟨_,?_,rfl⟩;rw [hF];exact ax
 have h2:¬ 256 < o.length:=by simp [dPrs_len] at h2;omega
 rw [show manyF l o=(0,0) by rw [manyF,if_neg h,if_neg h1,if_neg h2],if_neg (by decide)] at hF;have h0:enumL l 0 l=enumL l 0 (l.drop 0):=rfl;refine loop_i (fun j st=>∃ e:Nat,st=wr1St l o e/\e<=l.length/\enumL l 0 l=enumL l e (l.drop e)/\j=l.length - e) l.length (wr1St l o 0) (weak_mk ⟨_,rfl⟩ wA rfl rfl rfl wB) ⟨0,rfl,by omega,rfl,by omega⟩ ?_;rintro j st ⟨e,rfl,he,heq,rfl⟩;refine br (fun hL=>?_) (fun hL=>?_)
 ·have hlt:e < l.length:=by simpa [dWds_len] using hL
  obtain ⟨w,hw⟩:∃ w,l[e]? = some w:=⟨_,gE hlt⟩;have hws:=wdsWt_mem (mG hw);have hst:enumL l e (l.drop e)=if listedF l e w≠0 then (listedF l e w,w.a) else enumL l (e + 1) (l.drop (e + 1)):=by rw [drop_cons hw,enumL]
  obtain ⟨p,hp,hpd⟩:=dup_ix hw;have hf:=find11_spec l w.s hs;rw [hp] at hf;refine ⟨dWd w,⟨by omega,dWds_get hw⟩,?_⟩;refine call_p en290 (right8_spec w.s (by omega)) ax rfl ?_;refine br (fun hN=>?_) (fun hN=>?_)
  ·have hN:nameOK w.s=false:=by simpa using hN
   have hf:listedF l e w=9:=by simp [listedF,hN]
   rw [heq,hst,hf,if_pos (show (9:Int)≠0 by decide),if_pos (by simp)] at hF;refine ⟨dWd w,⟨by omega,dWds_get hw⟩,?_⟩;refine ⟨_,?_,rfl⟩;rw [hF];exact ax
  ·have hN:nameOK w.s=true:=by simpa using hN
   refine ⟨dWd w,⟨by omega,dWds_get hw⟩,?_⟩;refine call_p en291 (hf) ax rfl ?_;refine br (fun h2=>?_) (fun h2=>?_)
   ·have h2:p < e:=by have:=h2;simp [oz] at this;exact this
    have hf:listedF l e w=10:=by simp [listedF,hN,hpd.1 h2]
    rw [heq,hst,hf,if_pos (show (10:Int)≠0 by decide),if_pos (by simp)] at hF;refine ⟨dWd w,⟨by omega,dWds_get hw⟩,?_⟩;refine ⟨_,?_,rfl⟩;rw [hF];exact ax
   ·have h2:¬ p < e:=by have:=h2;simp [oz] at this;omega
    have hd:dupBefore (l.take e) w.s=false:=by
     cases hd:dupBefore (l.take e) w.s
     ·rfl
     ·exact absurd (hpd.2 hd) h2
    have hf:listedF l e w=0:=by simp [listedF,hN,hd]
    rw [hf,if_neg (by simp)] at hst;exact ⟨wr1St l o (e + 1),(weak_mk ⟨_,rfl⟩ wA rfl rfl rfl (wNB hlt)),l.length - (e + 1),by omega,e + 1,rfl,by omega,by rw [heq,hst],rfl⟩
 have hge:e=l.length:=by have:=hL;simp [dWds_len] at this;omega
 rw [heq,hge,List.drop_length,show enumL l l.length []=(0,0) from rfl,if_neg (by decide)] at hF;refine loop_i (fun j st=>∃ e:Nat,st=wr2St l o e/\e<=o.length/\numF (nmTx l) o=numF (nmTx l) (o.drop e)/\j=o.length - e) o.length (wr2St l o 0) (weak_mk ⟨_,rfl⟩ wA rfl rfl rfl wB) ⟨0,rfl,by omega,rfl,by omega⟩ ?_;clear heq hL hge he e;rintro j st ⟨e,rfl,he,heq,rfl⟩;refine br (fun hL=>?_) (fun hL=>?_)
 ·have hlt:e < o.length:=by simpa [dPrs_len] using hL
  obtain ⟨w,hw⟩:∃ w,o[e]? = some w:=⟨_,gE hlt⟩;have hst:numF (nmTx l) (o.drop e)=if ixOf (nmTx l) w.1.s=none then (17,w.1.a) else if ixOf (nmTx l) w.2.s=none then (17,w.2.a) else numF (nmTx l) (o.drop (e + 1)):=by rw [drop_cons hw,numF]
  refine ⟨dPr w,⟨by omega,dPrs_get hw⟩,?_⟩;refine call_p en291 (find11_spec l w.1.s hs) ax rfl ?_;refine br (fun ha=>?_) (fun ha=>?_)
  ·have ha:=oz_neg.1 ha;rw [heq,hst,if_pos ha,if_pos (by simp)] at hF;refine ⟨dPr w,⟨by omega,dPrs_get hw⟩,?_⟩;refine ⟨_,?_,rfl⟩;rw [hF];exact ax
  have ha:¬ ixOf (nmTx l) w.1.s=none:=fun hn=>by have:=oz_neg.2 hn;rw [ha] at this;cases this
  refine ⟨dPr w,⟨by omega,dPrs_get hw⟩,?_⟩;refine call_p en291 (find11_spec l w.2.s hs) ax rfl ?_;refine br (fun hb=>?_) (fun hb=>?_)
  ·have hb:=oz_neg.1 hb;rw [heq,hst,if_neg ha,if_pos hb,if_pos (by simp)] at hF;refine ⟨dPr w,⟨by omega,dPrs_get hw⟩,?_⟩;refine ⟨_,?_,rfl⟩;rw [hF];exact ax
  have hb:¬ ixOf (nmTx l) w.2.s=none:=fun hn=>by have:=oz_neg.2 hn;rw [hb] at this;cases this
  rw [if_neg ha,if_neg hb] at hst;exact ⟨wr2St l o (e + 1),(weak_mk ⟨_,rfl⟩ wA rfl rfl rfl (wNB hlt)),o.length - (e + 1),by omega,e + 1,rfl,by omega,by rw [heq,hst],rfl⟩
 have hge:e=o.length:=by have:=hL;simp [dPrs_len] at this;omega
 rw [hge,List.drop_length,show numF (nmTx l) []=(0,0) from rfl] at heq;rw [heq,if_neg (by decide)] at hF;have hn0:(numF (nmTx l) o).1=0:=by rw [heq]
 have hP:PrOK l.length (numL (nmTx l) o):=by have:=numF_ok hn0;rwa [nmTx_len] at this
 have hpo:=poB_of hP;have hml:=dMatB_len l.length (leqN l.length (numL (nmTx l) o));refine call_p en86 (leq_spec l o (by omega) hs hs2 hn0) ax rfl ?_;generalize leqN l.length (numL (nmTx l) o)=f at hF hpo hml ⊢;refine call_p en292 (loop10_spec l.length f (by omega)) ax rfl ?_
 cases hlo:firstN (loopP l.length f) l.length with
 | some a=>
  rw [hlo] at hF;have ha:=(firstN_spec hlo).1;obtain ⟨x,hx⟩:∃ x,l[a]? = some x:=⟨_,gE ha⟩;simp only [atN_get hx] at hF;refine ⟨dWd x,⟨by simp only [oz];omega,dWds_get hx⟩,?_⟩;refine ⟨_,?_,rfl⟩;rw [hF];exact ax
 | none=>
 have hpo:=hpo hlo;rw [hlo] at hF;simp only at hF;refine call_p en293 (turn_spec l.length f (by omega)) ax rfl ?_;refine loop_i (fun j st=>∃ e:Nat,st=wr3St l l.length f e/\e<=l.length/\(∀ b,b < e->bndP f l.length b=false)/\j=l.length - e) l.length (wr3St l l.length f 0) (weak_mk ⟨_,rfl⟩ wA rfl rfl rfl wB) ⟨0,rfl,by omega,fun _ h=>by omega,by omega⟩ ?_;clear heq hL hge he e;rintro j st ⟨e,rfl,he,hno,rfl⟩;refine br (fun hL=>?_) (fun hL=>?_)
 ·have hlt:e < l.length:=by simpa [hml] using hL
  have hbe:=bndP_eq hpo hlt;refine loop_i (fun j st=>∃ k:Nat,st=wr4St l l.length f e k/\k<=e/\(∀ a,a < k->lackR f l.length a e=false)/\j=e - k) e (wr4St l l.length f e 0) (weak_mk ⟨_,rfl⟩ wA rfl rfl rfl wB) ⟨0,rfl,by omega,fun _ h=>by omega,by omega⟩ ?_;rintro j st ⟨k,rfl,hk,hno2,rfl⟩;refine br (fun hL2=>?_) (fun hL2=>?_)
  ·have hkt:k < e:=by simpa using hL2
   obtain ⟨x,hx⟩:∃ x,l[e]? = some x:=⟨_,gE hlt⟩
   have hbad:lackR f l.length k e=true->F=(12,x.a):=fun hlk=>by
    rw [firstN_some hlt (by rw [hbe,List.any_eq_true];exact ⟨k,by simpa using hkt,hlk⟩) hno] at hF;simp only [atN_get hx] at hF;exact hF
   refine call_p en252 (join11_spec l.length f (by omega) k e (by omega) hlt) ax rfl ?_;refine br (fun g1=>?_) (fun g1=>?_)
   ·have g1:¬ joinR f l.length k e=none:=fun hn=>by rw [oz_neg.2 hn] at g1;cases g1
    refine call_p en252 (join11_spec l.length (fun a b=>f b a) (by omega) k e (by omega) hlt) ax rfl ?_;refine br (fun g2=>?_) (fun g2=>?_)
    ·have g2:joinR (fun a b=>f b a) l.length k e=none:=by
      rw [<- oz_neg];simpa [pickB] using g2
     have hF:=hbad (by unfold lackR;rw [g2];simp);refine ⟨dWd x,⟨by omega,dWds_get hx⟩,?_⟩;refine ⟨_,?_,rfl⟩;rw [hF];exact ax
    ·have g2:¬ joinR (fun a b=>f b a) l.length k e=none:=fun hn=>by
      have h3:=oz_neg.2 hn;simp [pickB] at g2;have h3:=of_decide_eq_true h3;omega
     refine ⟨wr4St l l.length f e (k + 1),(weak_mk ⟨_,rfl⟩ wA rfl rfl rfl (wNB hkt)),e - (k + 1),by omega,k + 1,rfl,by omega,fun j hj=>?_,rfl⟩;rcases Nat.lt_succ_iff_lt_or_eq.1 hj with hj | rfl
     ·exact hno2 j hj
     ·unfold lackR;rw [Option.isNone_eq_false_iff.2 (Option.isSome_iff_ne_none.2 g1),Option.isNone_eq_false_iff.2 (Option.isSome_iff_ne_none.2 g2)];rfl
   ·have g1:joinR f l.length k e=none:=by
     rw [<- oz_neg];simpa using g1
    have hF:=hbad (by unfold lackR;rw [g1];rfl);refine ⟨dWd x,⟨by omega,dWds_get hx⟩,?_⟩;refine ⟨_,?_,rfl⟩;rw [hF];exact ax
  ·have hge:k=e:=by have:=hL2;simp at this;omega
   subst hge;refine ⟨wr3St l l.length f (k + 1),(weak_mk ⟨_,rfl⟩ wA rfl rfl rfl (wNB hlt)),l.length - (k + 1),by omega,k + 1,rfl,by omega,fun j hj=>?_,rfl⟩;rcases Nat.lt_succ_iff_lt_or_eq.1 hj with hj | rfl
   ·exact hno j hj
   ·rw [hbe,List.any_eq_false];intro a ha;rw [hno2 a (by simpa using ha)];decide
 ·have hge:e=l.length:=by have:=hL;simp [hml] at this;omega
  subst hge;rw [firstN_none hno] at hF;simp only at hF;refine ⟨_,?_,rfl⟩;rw [hF];exact ax
abbrev ovSt (n:Nat) (f:Nat->Nat->Bool) (l:List Nat) (c e:Nat):St:=
 ⟨[(0,⟨[],.sl 1 (dMat (matB n f)) none⟩),(1,⟨[],.sl 1 (dInts l) none⟩),(2,⟨[],.v (.int .i64 c)⟩),(7,⟨[],.v (.int .i64 e)⟩)],[],[]⟩
theorem over_spec (n:Nat) (f:Nat->Nat->Bool) (hn:n<=64) (l:List Nat) (hl:∀ i∈l,i < n) (hll:l.length<=1099511627776) (c:Nat) (hc:c < n) :
  EvP Tryz.prog 379 [.sl 1 (dMat (matB n f)) none,.sl 1 (dInts l) none,.v (.int .i64 c)] (.v (.bool (overB f l c))):=by
 have hml:=dMatB_len n f;have hil:=dInts_len l;refine ev_go (P:=Tryz.prog) tt tt_ok 5000 25 [.tmp 6] Tryz.func379 rfl Tryz.ntmps379 rfl (nL rfl) (fun E9 w9 hn9 hm9=>?_);refine loop_i (fun j st=>∃ e:Nat,st=ovSt n f l c e/\e<=l.length/\overB f l c=overB f (l.drop e) c/\j=l.length - e) l.length (ovSt n f l c 0) (weak_mk ⟨_,rfl⟩ wA rfl rfl rfl wB) ⟨0,rfl,by omega,rfl,by omega⟩ ?_;rintro j st ⟨e,rfl,he,heq,rfl⟩;rw [heq];refine br (fun hL=>?_) (fun hL=>?_)
 ·have hlt:e < l.length:=by have:=hL;simp [hil] at this;exact this
  obtain ⟨i,hi⟩:∃ i,l[e]? = some i:=⟨_,gE hlt⟩;have hin:=hl i (mG hi);have hst:overB f (l.drop e) c=(f i c && overB f (l.drop (e + 1)) c):=by unfold overB;rw [drop_cons hi,List.all_cons]
  refine ⟨_,⟨by omega,dInts_get hi⟩,?_⟩;refine ⟨_,⟨by omega,mrow_get hin⟩,?_⟩;refine ⟨_,⟨by omega,mcell_get hc⟩,?_⟩;refine br (fun g=>?_) (fun g=>?_)
  ·have g:f i c=false:=by simpa using g
   rw [hst,g,Bool.false_and];exact (rfl:_=_)
  ·have g:f i c=true:=by simpa using g
   rw [g,Bool.true_and] at hst;exact ⟨ovSt n f l c (e + 1),(weak_mk ⟨_,rfl⟩ wA rfl rfl rfl (wNB hlt)),l.length - (e + 1),by omega,e + 1,rfl,by omega,hst,rfl⟩
 ·have hge:e=l.length:=by have:=hL;simp [hil] at this;omega
  rw [hge,List.drop_length];exact (rfl:_=_)
def lstK (f:Nat->Nat->Bool) (l:List Nat) (c k:Nat):Bool:=overB f l c && (List.range k).all fun d=>!overB f l d || f c d
theorem lstK_zero (f:Nat->Nat->Bool) (l:List Nat) (c:Nat):lstK f l c 0=overB f l c:=by simp [lstK]
theorem lstK_succ (f:Nat->Nat->Bool) (l:List Nat) (c k:Nat):lstK f l c (k + 1)=(lstK f l c k && (!overB f l k || f c k)):=by
 simp only [lstK,List.range_succ,List.all_append,List.all_cons,List.all_nil,Bool.and_true,Bool.and_assoc]
abbrev leSt (n:Nat) (f:Nat->Nat->Bool) (l:List Nat) (e:Nat):St:=
 ⟨[(0,⟨[],.sl 1 (dMat (matB n f)) none⟩),(1,⟨[],.sl 1 (dInts l) none⟩),(5,⟨[],.v (.int .i64 e)⟩)],[],[]⟩
abbrev le2St (n:Nat) (f:Nat->Nat->Bool) (l:List Nat) (e:Nat) (x:Bool) (k:Nat):St:=
 ⟨[(0,⟨[],.sl 1 (dMat (matB n f)) none⟩),(1,⟨[],.sl 1 (dInts l) none⟩),(5,⟨[],.v (.int .i64 e)⟩),(6,⟨[],.v (.bool x)⟩),(7,⟨[],.v (.int .i64 k)⟩)],[],[]⟩
theorem least_spec (n:Nat) (f:Nat->Nat->Bool) (hn:n<=64) (l:List Nat) (hl:∀ i∈l,i < n) (hll:l.length<=1099511627776) :
  EvP Tryz.prog 313 [.sl 1 (dMat (matB n f)) none,.sl 1 (dInts l) none] (.v (.int .i64 (oz (leastN f n l)))):=by
 have hml:=dMatB_len n f;refine ev_go (P:=Tryz.prog) tt tt_ok 5000 40 [.tmp 4] Tryz.func313 rfl Tryz.ntmps313 rfl (nL rfl) (fun E9 w9 hn9 hm9=>?_);refine loop_i (fun j st=>∃ e:Nat,st=leSt n f l e/\e<=n/\(∀ c,c < e->lstB f n l c=false)/\j=n - e) n (leSt n f l 0) (weak_mk ⟨_,rfl⟩ wA rfl rfl rfl wB) ⟨0,rfl,by omega,fun _ h=>by omega,by omega⟩ ?_;rintro j st ⟨e,rfl,he,hno,rfl⟩;refine br (fun hL=>?_) (fun hL=>?_)
 ·have hlt:e < n:=by simpa [hml] using hL
  refine call_p en379 (over_spec n f hn l hl hll e hlt) ax rfl ?_;refine loop_i (fun j st=>∃ k:Nat,st=le2St n f l e (lstK f l e k) k/\k<=n/\j=n - k) n (le2St n f l e (lstK f l e 0) 0) (weak_mk ⟨_,rfl⟩ wA rfl rfl rfl (by repeat' (first | exact trivial | exact we_rfl rfl | exact we_bool (lstK_zero f l e).symm | refine ⟨⟨_,rfl,?_⟩,?_⟩))) ⟨0,rfl,by omega,by omega⟩ ?_;rintro j st ⟨k,rfl,hk,rfl⟩;refine br (fun hL2=>?_) (fun hL2=>?_)
  ·have hkt:k < n:=by simpa [hml] using hL2
   have hsu:=lstK_succ f l e k;refine call_p en379 (over_spec n f hn l hl hll k hkt) ax rfl ?_;refine br (fun g1=>?_) (fun g1=>?_)
   ·refine ⟨_,⟨by omega,mrow_get hlt⟩,?_⟩;refine ⟨_,⟨by omega,mcell_get hkt⟩,?_⟩;refine br (fun g2=>?_) (fun g2=>?_)
    ·have hx:false=lstK f l e (k + 1):=by simp [pickB] at g1 g2;rw [hsu];simp [g1,g2]
     exact ⟨le2St n f l e (lstK f l e (k + 1)) (k + 1),(weak_mk ⟨_,rfl⟩ wA rfl rfl rfl (by repeat' (first | exact trivial | exact we_rfl rfl | exact we_int (nxt hkt (by omega)) | exact we_bool hx | refine ⟨⟨_,rfl,?_⟩,?_⟩))),n - (k + 1),by omega,k + 1,rfl,by omega,rfl⟩
    ·have hx:lstK f l e k=lstK f l e (k + 1):=by simp [pickB] at g1 g2;rw [hsu];simp [g1,g2]
     exact ⟨le2St n f l e (lstK f l e (k + 1)) (k + 1),(weak_mk ⟨_,rfl⟩ wA rfl rfl rfl (by repeat' (first | exact trivial | exact we_rfl rfl | exact we_int (nxt hkt (by omega)) | exact we_bool hx | refine ⟨⟨_,rfl,?_⟩,?_⟩))),n - (k + 1),by omega,k + 1,rfl,by omega,rfl⟩
   ·have hx:lstK f l e k=lstK f l e (k + 1):=by simp [pickB] at g1;rw [hsu];simp [g1]
    exact ⟨le2St n f l e (lstK f l e (k + 1)) (k + 1),(weak_mk ⟨_,rfl⟩ wA rfl rfl rfl (by repeat' (first | exact trivial | exact we_rfl rfl | exact we_int (nxt hkt (by omega)) | exact we_bool hx | refine ⟨⟨_,rfl,?_⟩,?_⟩))),n - (k + 1),by omega,k + 1,rfl,by omega,rfl⟩
  ·have hge:k=n:=by have:=hL2;simp [hml] at this;omega
   subst hge;refine br (fun g=>?_) (fun g=>?_)
   ·have g:lstB f k l e=true:=g;rw [leastN,firstN_some hlt g hno];exact (rfl:_=_)
   ·have g:lstB f k l e=false:=g;refine ⟨leSt k f l (e + 1),(weak_mk ⟨_,rfl⟩ wA rfl rfl rfl (wNB hlt)),k - (e + 1),by omega,e + 1,rfl,by omega,fun j hj=>?_,rfl⟩;rcases Nat.lt_succ_iff_lt_or_eq.1 hj with hj | rfl
    ·exact hno j hj
    ·exact g
 ·have hge:e=n:=by have:=hL;simp [hml] at this;omega
  subst hge;rw [leastN,firstN_none hno];exact (rfl:_=_)
abbrev of12St (lv:List Wd) (f:Nat->Nat->Bool) (l:List Wd) (q e:Nat):St:=
 ⟨[(0,⟨[],.sl 2 (dWds lv) none⟩),(1,⟨[],.sl 1 (dMat (matB lv.length f)) none⟩),(2,⟨[],.sl 2 (dWds l) none⟩),(7,⟨[],.loc 0 0⟩),(8,⟨[],.sl 1 (dInts (labI (nmTx lv) (l.take e))) (some 0)⟩),(9,⟨[],.v (.int .i64 e)⟩)],[[.v (.int .i64 0),.v (.int .i64 0)]],[⟨q,3,1,none⟩]⟩
theorem labI_lt {L:List ByteArray} {l:List Wd} {i:Nat} (h:i∈labI L l) (hL:0 < L.length):i < L.length:=by
 unfold labI at h;obtain ⟨w,_,rfl⟩:=List.mem_map.1 h
 cases hx:ixOf L w.s with
 | none=>simpa using hL
 | some p=>exact (ixOf_some hx).1
theorem labI_snoc' {L:List ByteArray} {l:List Wd} {e i:Nat} {w:Wd} (h:l[e]? = some w) (hi:ixOf L w.s=some i):dInts (labI L (l.take e)) ++ [[DV.v (.int .i64 (oz (some i)))]]=dInts (labI L (l.take (e + 1))):=by
 rw [labI_snoc h hi];simp [dInts,oz]
theorem of12_spec (lv:List Wd) (f:Nat->Nat->Bool) (h0:0 < lv.length) (hn:lv.length<=32) (hs:wdsWt lv<=1099511627776) (l:List Wd) (hl:wdsWt l<=1099511627776) :
  EvP Tryz.prog 198 [.sl 2 (dWds lv) none,.sl 1 (dMat (matB lv.length f)) none,.sl 2 (dWds l) none] (labD f (nmTx lv) l):=by
 have hsl:=wdsWt_len l;have hnl:=nmTx_len lv;unfold labD labN;refine ev_go (P:=Tryz.prog) tt tt_ok 5000 40 [.tmp 6,.cell 7 46] Tryz.func198 rfl Tryz.ntmps198 rfl (nL rfl) (fun E9 w9 hn9 hm9=>?_);refine loop_i (fun j st=>∃ e:Nat,st=of12St lv f l e e/\e<=l.length/\labW (nmTx lv) l=labW (nmTx lv) (l.drop e)/\j=l.length - e) l.length (of12St lv f l 0 0) (weak_tok ⟨0,3,1,none⟩ rfl ⟨_,rfl⟩ rfl wA rfl rfl wTB) ⟨0,rfl,by omega,rfl,by omega⟩ ?_;rintro j st ⟨e,rfl,he,heq,rfl⟩;rw [heq];refine br (fun hL=>?_) (fun hL=>?_)
 ·have hlt:e < l.length:=by simpa [dWds_len] using hL
  obtain ⟨w,hw⟩:∃ w,l[e]? = some w:=⟨_,gE hlt⟩;have hst:=labW_drop (L:=nmTx lv) hw;refine ⟨dWd w,⟨by omega,dWds_get hw⟩,?_⟩;refine call_p en291 (find11_spec lv w.s hs) ax rfl ?_;refine br (fun ha=>?_) (fun ha=>?_)
  ·have ha:=oz_neg.1 ha;rw [hst,if_pos ha];refine drawG_s mo (by decide +kernel) ?_;refine ⟨dWd w,⟨by omega,dWds_get hw⟩,?_⟩;exact ⟨_,ax,rfl⟩
  ·cases hi:ixOf (nmTx lv) w.s with
   | none=>have:=oz_neg.2 hi;rw [ha] at this;cases this
   | some i=>
   rw [if_neg (by rw [hi];simp)] at hst;refine ⟨by simp [dInts_len,labI];omega,⟨by simp [dInts_len,labI,maxLen];omega,by simp [dInts_len,labI];omega⟩,?_⟩;exact ⟨of12St lv f l (e + 1) (e + 1),(weak_mk ⟨_,rfl⟩ wA rfl rfl rfl (by repeat' (first | exact trivial | exact we_rfl rfl | exact we_int (nxt hlt (by omega)) | exact we_sl (labI_snoc' hw hi) rfl | refine ⟨⟨_,rfl,?_⟩,?_⟩))),l.length - (e + 1),by omega,e + 1,rfl,by omega,hst,rfl⟩
 ·have hge:e=l.length:=by have:=hL;simp [dWds_len] at this;omega
  rw [hge,List.drop_length,List.take_length];refine call_p en313 (least_spec lv.length f (by omega) (labI (nmTx lv) l) (fun i hi=>by have:=labI_lt hi (by omega);omega) (by simp [labI];omega)) ax rfl ?_;rw [<- hnl];exact ⟨_,ax,rfl⟩
theorem tL_get {S:Sch} {e:Nat} {x:Wd × Ty} (h:S.types[e]? = some x):(tL S)[e]? = some x.1.s:=by simp [tL,nmTx,tNm,h]
abbrev f18St (S:Sch) (s:ByteArray) (e:Nat):St:=
 ⟨[(1,⟨[],.v (.string s)⟩),(2,⟨[],.loc 0 0⟩),(5,⟨[],.v (.int .i64 e)⟩)],[dSch S],[]⟩
theorem find18_spec (S:Sch) (s:ByteArray) (hl:S.types.length<=1099511627776) :
  EvP Tryz.prog 199 [.agg (dSch S),.v (.string s)] (.v (.int .i64 (oz (ixOf (tL S) s)))):=by
 have hN:=dNms_len S.types;have htl:=tL_len S;have hget:=@tL_get S;obtain ⟨levels,order,types,⟨rh,rp⟩⟩:=S;simp only at hl hN htl hget;refine ev_go (P:=Tryz.prog) tt tt_ok 5000 23 [.tmp 4] Tryz.func199 rfl Tryz.ntmps199 rfl (nL rfl) (fun E9 w9 hn9 hm9=>?_);refine loop_i (fun j st=>∃ e:Nat,st=f18St ⟨levels,order,types,.mk rh rp⟩ s e/\e<=types.length/\(∀ j,j < e->(tL ⟨levels,order,types,.mk rh rp⟩)[j]? ≠ some s)/\j=types.length - e) types.length (f18St ⟨levels,order,types,.mk rh rp⟩ s 0) (weak_mk ⟨_,rfl⟩ wA rfl rfl rfl wB) ⟨0,rfl,by omega,fun _ h=>by omega,by omega⟩ ?_;rintro j st ⟨e,rfl,he,hno,rfl⟩;refine br (fun hL=>?_) (fun hL=>?_)
 ·have hlt:e < types.length:=by have:=hL;simp [hN] at this;exact this
  obtain ⟨x,hx⟩:∃ x,types[e]? = some x:=⟨_,gE hlt⟩;have hg:=hget hx;obtain ⟨xw,⟨xh,xp⟩⟩:=x;refine ⟨_,⟨by omega,dNms_get hx⟩,?_⟩;refine br (fun hq=>?_) (fun hq=>?_)
  ·have hq:xw.s=s:=by simpa using hq
   rw [ixOf_eq (p:=e) (by rw [hg,hq]) (fun j hj=>Nat.le_of_not_lt fun hl=>hno j hl hj)];exact (rfl:_=_)
  ·have hq:¬ xw.s=s:=by simpa using hq
   refine ⟨f18St ⟨levels,order,types,.mk rh rp⟩ s (e + 1),(weak_mk ⟨_,rfl⟩ wA rfl rfl rfl (wNB hlt)),types.length - (e + 1),by omega,e + 1,rfl,by omega,fun j hj=>?_,rfl⟩;rcases Nat.lt_succ_iff_lt_or_eq.1 hj with hj | rfl
   ·exact hno j hj
   ·rw [hg];simpa using hq
 ·have hge:e=types.length:=by have:=hL;simp [hN] at this;omega
  rw [ixOf_no (fun j hj=>hno j (by omega))];exact (rfl:_=_)
abbrev w18St (S:Sch) (l:List Wd) (e:Nat):St:=
 ⟨[(1,⟨[],.sl 2 (dWds l) none⟩),(2,⟨[],.loc 0 0⟩),(4,⟨[],.loc 1 0⟩),(5,⟨[],.v (.int .i64 e)⟩)],[dSch S,[.v (.int .i64 0),.v (.int .i64 0)]],[]⟩
theorem word18_spec (S:Sch) (hs:wdsWt S.levels<=1099511627776) (l:List Wd) (hl:wdsWt l<=1099511627776) :
  EvP Tryz.prog 300 [.agg (dSch S),.sl 2 (dWds l) none] (labW (nmTx S.levels) l).d:=by
 have hsl:=wdsWt_len l;obtain ⟨levels,order,types,⟨rh,rp⟩⟩:=S;simp only at hs;refine ev_go (P:=Tryz.prog) tt tt_ok 5000 28 [.cell 4 46] Tryz.func300 rfl Tryz.ntmps300 rfl (nL rfl) (fun E9 w9 hn9 hm9=>?_);refine loop_i (fun j st=>∃ e:Nat,st=w18St ⟨levels,order,types,.mk rh rp⟩ l e/\e<=l.length/\labW (nmTx levels) l=labW (nmTx levels) (l.drop e)/\j=l.length - e) l.length (w18St ⟨levels,order,types,.mk rh rp⟩ l 0) (weak_mk ⟨_,rfl⟩ wA rfl rfl rfl wB) ⟨0,rfl,by omega,rfl,by omega⟩ ?_;rintro j st ⟨e,rfl,he,heq,rfl⟩;rw [heq];refine br (fun hL=>?_) (fun hL=>?_)
 ·have hlt:e < l.length:=by simpa [dWds_len] using hL
  obtain ⟨w,hw⟩:∃ w,l[e]? = some w:=⟨_,gE hlt⟩;have hst:=labW_drop (L:=nmTx levels) hw;refine drawG_i (fun _=>false) mo (by decide +kernel) ?_;refine ⟨dWd w,⟨by omega,dWds_get hw⟩,?_⟩;refine callD_p en291 (find11_spec levels w.s hs) ax rfl ?_;refine br (fun ha=>?_) (fun ha=>?_)
  ·have ha:=oz_neg.1 ha;rw [hst,if_pos ha];refine ⟨dWd w,⟨by omega,dWds_get hw⟩,?_⟩;exact ⟨_,ax,rfl⟩
  ·rw [if_neg (fun hn=>by have:=oz_neg.2 hn;rw [ha] at this;cases this)] at hst;exact ⟨w18St ⟨levels,order,types,.mk rh rp⟩ l (e + 1),(weak_mk ⟨_,rfl⟩ wA rfl rfl rfl (wNB hlt)),l.length - (e + 1),by omega,e + 1,rfl,by omega,hst,rfl⟩
 ·have hge:e=l.length:=by have:=hL;simp [dWds_len] at this;omega
  rw [hge,List.drop_length];exact ⟨_,ax,rfl⟩
def dTys (l:List Ty):List (List DV):=l.map dTy
theorem dTys_len (l:List Ty):(dTys l).length=l.length:=by simp [dTys]
theorem dTys_get {l:List Ty} {j:Nat} {t:Ty} (h:l[j]? = some t):(dTys l)[j]? = some (dTy t):=by simp [dTys,h]
def tysOf (S:Sch):List Ty:=S.types.map fun x=>x.2
def allT (S:Sch):List Ty:=tysOf S ++ [S.root]
abbrev allSt (S:Sch) (q e:Nat):St:=
 ⟨[(1,⟨[],.loc 0 0⟩),(3,⟨[],.sl 9 (dTys ((tysOf S).take e)) (some 0)⟩),(4,⟨[],.v (.int .i64 e)⟩)],[dSch S],[⟨q,40,9,none⟩]⟩
theorem all_spec (S:Sch) (hl:S.types.length<=1099511627776) :
  EvP Tryz.prog 87 [.agg (dSch S)] (.sl 9 (dTys (allT S)) none):=by
 have hN:=dNms_len S.types;obtain ⟨levels,order,types,⟨rh,rp⟩⟩:=S;simp only at hl hN;refine ev_go (P:=Tryz.prog) tt tt_ok 5000 26 [.tmp 2] Tryz.func87 rfl Tryz.ntmps87 rfl (nL rfl) (fun E9 w9 hn9 hm9=>?_);refine loop_i (fun j st=>∃ e:Nat,st=allSt ⟨levels,order,types,.mk rh rp⟩ e e/\e<=types.length/\j=types.length - e) types.length (allSt ⟨levels,order,types,.mk rh rp⟩ 0 0) (weak_bt 1 ⟨0,40,9,none⟩ rfl rfl rfl (by repeat' (first | exact rfl | exact we_rfl rfl | exact we_tok (Nat.le_refl _) rfl | exact we_tok (Nat.le_refl _) rfl | refine ⟨_,_,rfl,?_,?_⟩)) rfl rfl wTB) ⟨0,rfl,by omega,by omega⟩ ?_;rintro j st ⟨e,rfl,he,rfl⟩;have htl:(dTys ((tysOf ⟨levels,order,types,.mk rh rp⟩).take e)).length=e:=by simp [dTys,tysOf];omega
 refine br (fun hL=>?_) (fun hL=>?_)
 ·have hlt:e < types.length:=by have:=hL;simp [hN] at this;exact this
  obtain ⟨x,hx⟩:∃ x,types[e]? = some x:=⟨_,gE hlt⟩
  have hsn:dTys ((tysOf ⟨levels,order,types,.mk rh rp⟩).take e) ++ [dTy x.2]=dTys ((tysOf ⟨levels,order,types,.mk rh rp⟩).take (e + 1)):=by
   rw [List.take_add_one];simp [tysOf,hx,dTys]
  obtain ⟨xw,⟨xh,xp⟩⟩:=x;refine ⟨_,⟨by omega,dNms_get hx⟩,?_⟩;refine ⟨htl,⟨by rw [htl];simp [maxLen];omega,by rw [htl];simp;omega⟩,?_⟩;exact ⟨allSt ⟨levels,order,types,.mk rh rp⟩ (e + 1) (e + 1),(weak_b 1 rfl (wSA hlt hsn) rfl rfl rfl (wSB hlt hsn)),types.length - (e + 1),by omega,e + 1,rfl,by omega,rfl⟩
 ·have hge:e=types.length:=by have:=hL;simp [hN] at this;omega
  have hal:dTys ((tysOf ⟨levels,order,types,.mk rh rp⟩).take e) ++ [dTy (.mk rh rp)]=dTys (allT ⟨levels,order,types,.mk rh rp⟩):=by
   rw [List.take_of_length_le (by simp [tysOf];omega)];simp [allT,dTys]
  refine ⟨htl,⟨by rw [htl];simp [maxLen];omega,by rw [htl];simp;omega⟩,?_⟩;rw [<- hal];exact ⟨_,ax,rfl⟩
mutual
def flatT:Ty->List Ty
 | .mk h ps=>if h.kind=9 then [] else .mk h ps :: flatP ps
def flatP:Pts->List Ty
 | .nil=>[]
 | .cons p t r=>(if p.bare then [] else flatT t) ++ flatP r
end
mutual
theorem flatT_len:∀ t:Ty,(flatT t).length=t.nn
 | .mk h ps=>by
  have:=flatP_len ps;simp only [flatT,Ty.nn];split
  ·rfl
  ·simp only [List.length_cons];omega
theorem flatP_len:∀ ps:Pts,(flatP ps).length=ps.nn
 | .nil=>rfl
 | .cons p t r=>by
  have:=flatT_len t;have:=flatP_len r;simp only [flatP,Pts.nn,List.length_append];split
  ·simp only [List.length_nil];omega
  ·omega
end
theorem evp_nil {P:Program} {f:FuncId} {args:List DV} {e:Nat} {es:List (List DV)} (h:Ev P f args [] [] (fun r _ _=>r = .sl e es none∨(es=[]/\r = .v (.slice none 0 0)))):EvP P f args (.sl e es none):=by
 intro E w vs hE ht hv;refine (h E w vs hE ht hv).mono ?_;rintro e' w' ⟨v,rfl,hM,hs,d,os,E',h1,h2,h3,h4,h5,h6⟩;rcases h6 with rfl | ⟨rfl,rfl⟩
 ·exact ⟨v,rfl,hM,hs,_,os,E',h1,h2,h3,h4,h5,rfl⟩
 ·refine ⟨v,rfl,hM,hs,.sl e [] none,os,E',h1,h2,h3,h4,?_,rfl⟩;unfold Rv at h5 ⊢;exact ⟨_,0,0,h5.1,⟨rfl,Nat.le_refl _⟩,fun hn=>(hn rfl).elim,fun k hk=>by cases hk⟩
abbrev flSt (t:Ty) (L:List Ty) (q e:Nat):St:=
 ⟨[(1,⟨[],.loc 0 0⟩),(3,⟨[],.sl 9 (dTys L) (some 0)⟩),(4,⟨[],.v (.int .i64 e)⟩)],[dTy t],[⟨q,40,9,none⟩]⟩
theorem flat_spec:∀ (k:Nat) (t:Ty),t.wt<=k->t.wt<=1099511627776 ->
  EvP Tryz.prog 88 [.agg (dTy t)] (.sl 9 (dTys (flatT t)) none)
 | 0,t,hn,_=>by have:=t.wt_pos;omega
 | k + 1,.mk h ps,hn,hbig=>by
  simp only [Ty.wt,Hd.wt] at hn hbig;have hpl:=ps.wt_len;have hc:=ps.cnt_wt;have hc2:=ps.nn_cnt;have hfl:=flatP_len ps;refine evp_nil ?_;refine evB_gom (s:=false) (bt:=[]) (mu:=[9]) (hbt:=fun p hp=>by cases hp) (fr:=false) (P:=Tryz.prog) tt tt_ok 5000 34 [.tmp 2] Tryz.func88 rfl Tryz.ntmps88 rfl (nL rfl) (fun E9 w9 hn9 hm9=>?_);refine br (fun h9=>?_) (fun h9=>?_)
  ·have h9:h.kind=9:=by simpa using h9
   have:flatT (.mk h ps)=[]:=by simp [flatT,h9]
   exact .inr ⟨by rw [this];rfl,rfl⟩
  have h9:¬ h.kind=9:=by simpa using h9
  have hft:flatT (.mk h ps) = .mk h ps :: flatP ps:=by simp [flatT,h9]
  refine op_lit rfl rfl rfl rfl rfl rfl rfl rfl ?_
  refine loop_i (fun j st=>∃ (e q:Nat) (L:List Ty),st=flSt (.mk h ps) L q e/\q=L.length/\e<=ps.len/\flatT (.mk h ps)=L ++ flatP (ps.drop e)/\j=ps.len - e) ps.len
   (flSt (.mk h ps) [.mk h ps] 1 0) (weak_b 1 rfl (by repeat' (first | exact rfl | exact we_rfl rfl | exact we_rfl rfl | refine ⟨_,_,rfl,?_,?_⟩)) rfl rfl rfl (by repeat' (first | exact trivial | exact we_rfl rfl | exact we_rfl rfl | refine ⟨⟨_,rfl,?_⟩,?_⟩))) ⟨0,1,_,rfl,rfl,by omega,hft,by omega⟩ ?_
  rintro j st ⟨e,q,L,rfl,hq,he,hne,rfl⟩
  have hLl:L.length<=1 + ps.nn:=by
   have:=congrArg List.length hne;rw [hft] at this;simp at this;omega
  refine br (fun hL=>?_) (fun hL=>?_)
  ·have hlt:e < ps.len:=by simpa [dPts_len] using hL
   obtain ⟨p,t,hx⟩:=Pts.get_lt hlt;have hwt:=Pts.wt_mem (mG hx);rw [Pts.drop_cons hx] at hne;simp only [flatP] at hne;obtain ⟨u,us⟩:=t;refine ⟨_,⟨by omega,dPts_get hx⟩,?_⟩;refine br (fun hB=>?_) (fun hB=>?_)
   ·have hB:p.bare=false:=by simpa using hB
    have hne:flatT (.mk h ps)=(L ++ flatT (.mk u us)) ++ flatP (ps.drop (e + 1)):=by rw [hne,hB,List.append_assoc];all_goals rfl
    have hll:L.length + (flatT (.mk u us)).length<=1 + ps.nn:=by
     have:=congrArg List.length hne;rw [hft] at this;simp at this;omega
    have hsn:dTys L ++ dTys (flatT (.mk u us))=dTys (L ++ flatT (.mk u us)):=by simp [dTys]
    refine ⟨_,⟨by omega,dPts_get hx⟩,?_⟩;refine call_p en88 (flat_spec k (.mk u us) (by omega) (by omega)) ax rfl ?_;refine ⟨by rw [dTys_len,hq],⟨by simp only [dTys_len,maxLen];omega,by simp only [dTys_len];omega⟩,?_⟩;exact ⟨flSt (.mk h ps) (L ++ flatT (.mk u us)) (q + (dTys (flatT (.mk u us))).length) (e + 1),(weak_b 1 rfl (wSA hlt hsn) rfl rfl rfl (wSB hlt hsn)),ps.len - (e + 1),by omega,e + 1,_,_,rfl,by rw [dTys_len,List.length_append,hq],by omega,hne,rfl⟩
   ·have hB:p.bare=true:=by simpa using hB
    rw [hB] at hne;exact ⟨flSt (.mk h ps) L q (e + 1),(weak_b 1 rfl (wNA hlt) rfl rfl rfl (wNB hlt)),ps.len - (e + 1),by omega,e + 1,q,L,rfl,hq,by omega,hne,rfl⟩
  ·have hge:e=ps.len:=by simp [dPts_len] at hL;omega
   rw [hge,Pts.drop_len] at hne;simp only [flatP,List.append_nil] at hne;rw [hne];exact ⟨_,ax,.inl rfl⟩
theorem end18_spec (S:Sch) (hl:S.types.length<=1099511627776) (hr:∀ x∈S.types,refB S x.2=true):∀ (k i:Nat),i < S.types.length->k<=99 ->
  EvP Tryz.prog 177 [.agg (dSch S),.v (.int .i64 i),.v (.int .i64 k)] (.v (.int .i64 (oz (endI S (k + 1) i))))
 | k,i,hi,hk=>by
  have hN:=dNms_len S.types;have hfi:=fun s=>find18_spec S s hl;have ih:∀ k' j,k=k' + 1->j < S.types.length->EvP Tryz.prog 177 [.agg (dSch S),.v (.int .i64 j),.v (.int .i64 k')] (.v (.int .i64 (oz (endI S (k' + 1) j)))):=fun k' j he hj=>end18_spec S hl hr k' j hj (by omega);obtain ⟨x,hx⟩:∃ x,S.types[i]? = some x:=⟨_,gE hi⟩;have hrx:=hr x (mG hx);have htl:=tL_len S;obtain ⟨xw,⟨xh,xp⟩⟩:=x;have hE:endI S (k + 1) i=if xh.kind=9 then endI S k ((ixOf (tL S) xh.name.s).getD 0) else some i:=by rw [endI,hx];all_goals rfl
  obtain ⟨levels,order,types,⟨rh,rp⟩⟩:=S;simp only at hl hN hi hx hrx htl;refine ev_go (P:=Tryz.prog) tt tt_ok 5000 32 [.tmp 6] Tryz.func177 rfl Tryz.ntmps177 rfl (nL rfl) (fun E9 w9 hn9 hm9=>?_);refine ⟨_,⟨by omega,dNms_get hx⟩,?_⟩;refine br (fun h9=>?_) (fun h9=>?_)
  ·have h9:¬ xh.kind=9:=by simpa using h9
   rw [if_neg h9] at hE;rw [hE];exact (rfl:_=_)
  have h9:xh.kind=9:=by simpa using h9
  rw [if_pos h9] at hE;rw [hE];refine br (fun h1=>?_) (fun h1=>?_)
  ·have h1:k=0:=by have:=h1;simp at this;omega
   subst h1;exact (rfl:_=_)
  have h1:1<=k:=by have:=h1;simp at this;omega
  obtain ⟨k',rfl⟩:∃ k',k=k' + 1:=⟨k - 1,by omega⟩;have hix:=of_decide_eq_true hrx h9;obtain ⟨j,hj⟩:∃ j,ixOf (tL ⟨levels,order,types,.mk rh rp⟩) xh.name.s=some j:=Option.ne_none_iff_exists'.1 hix;have hjl:=(ixOf_some hj).1;rw [htl] at hjl;have hf:=hfi xh.name.s;rw [hj] at hf ⊢;have hk':IntKind.i64.wrap (((k' + 1:Nat):Int) - 1)=(k':Int):=by rw [wrap64 (by omega) (by omega)];omega
  refine drawG_i (fun _=>false) mo (by decide +kernel) ?_;refine ⟨_,⟨by omega,dNms_get hx⟩,?_⟩;refine callD_p en199 (hf) ax rfl ?_;refine callD_p en177 (ih k' j rfl hjl) (by repeat' (first | exact rfl | exact trivial | exact Or.inr (Or.inl ⟨_,rfl⟩) | exact Or.inr ⟨_,rfl⟩ | exact Or.inl ⟨rfl,rfl⟩ | exact Or.inl rfl | refine Or.inr ⟨_,_,rfl,Nat.zero_le _,rfl,?_⟩ | refine ⟨_,_,rfl,?_,?_⟩ | refine ⟨_,rfl,?_⟩ | exact congrArg (fun z=>DV.v (.int .i64 z)) hk'| refine Or.inr (Or.inr (Or.inr ⟨_,_,rfl,?_⟩)) | exact Or.inl rfl | refine Or.inr ?_)) rfl ?_;exact (rfl:_=_)
theorem endI_mono {S:Sch}:∀ {k i j:Nat},endI S k i=some j->endI S (k + 1) i=some j
 | 0,i,j,h=>by cases h
 | k + 1,i,j,h=>by
  rw [endI] at h ⊢
  cases hx:S.types[i]? with
  | none=>rw [hx] at h;cases h
  | some x=>
   rw [hx] at h;simp only at h ⊢;split at h
   ·rename_i h9;rw [if_pos h9];exact endI_mono h
   ·rename_i h9;rw [if_neg h9];exact h
def endR (S:Sch) (k:Nat):List Bool:=(List.range S.types.length).map fun i=>(endI S k i).isSome
theorem endR_len (S:Sch) (k:Nat):(endR S k).length=S.types.length:=by simp [endR]
theorem endR_get {S:Sch} {k i:Nat} (hi:i < S.types.length):(endR S k).getD i false=(endI S k i).isSome:=by
 simp [endR,List.getD_eq_getElem?_getD,List.getElem?_range hi]
theorem endR_le (S:Sch) (k:Nat):LeB (endR S k) (endR S (k + 1)):=by
 intro i h;by_cases hi:i < S.types.length
 ·rw [endR_get hi] at h ⊢;obtain ⟨j,hj⟩:=Option.isSome_iff_exists.1 h;rw [endI_mono hj];rfl
 ·rw [List.getD_eq_getElem?_getD,List.getElem?_eq_none (by rw [endR_len];omega)] at h;cases h
theorem endR_fix {S:Sch} {k:Nat} (h:endR S k=endR S (k + 1)):∀ i,endI S (k + 2) i=endI S (k + 1) i:=by
 intro i
 have key:∀ {j:Nat},j < S.types.length->(endI S k j).isSome=(endI S (k + 1) j).isSome:=fun {j} hj=>by
  rw [<- endR_get hj,<- endR_get hj,h]
 have same:∀ j,endI S (k + 1) j=endI S k j:=fun j=>by
  cases h1:endI S k j with
  | some m=>exact endI_mono h1
  | none=>
   cases h2:endI S (k + 1) j with
   | none=>rfl
   | some m=>
    have hj:j < S.types.length:=by
     rw [endI] at h2
     cases hx:S.types[j]? with
     | none=>rw [hx] at h2;cases h2
     | some x=>exact (gS hx).1
    have:=key hj;rw [h1,h2] at this;cases this
 rw [endI,endI]
 cases hx:S.types[i]? with
 | none=>rfl
 | some x=>
  simp only;split
  ·exact same _
  ·rfl
theorem endR_step (S:Sch):∀ k,(∀ i,endI S (k + 1) i=endI S k i)∨k<=cntB (endR S k)
 | 0=>.inr (Nat.zero_le _)
 | k + 1=>by
  rcases endR_step S k with h | h
  ·refine .inl fun i=>?_;rw [endI,endI]
   cases hx:S.types[i]? with
   | none=>rfl
   | some x=>
    simp only;split
    ·exact h _
    ·rfl
  ·rcases (leB_eq (by rw [endR_len,endR_len]) (endR_le S k)).1 with h2 | h2
   ·exact .inl (endR_fix h2)
   ·exact .inr (by omega)
theorem endI_enough {S:Sch}:∀ {k:Nat},S.types.length + 1<=k->∀ i,endI S k i=endI S (S.types.length + 1) i:=by
 have hst:∀ i,endI S (S.types.length + 2) i=endI S (S.types.length + 1) i:=fun i=>by
  rcases endR_step S (S.types.length + 1) with h | h
  ·exact h i
  ·have:=cntB_le (endR S (S.types.length + 1));rw [endR_len] at this;omega
 have key:∀ d i,endI S (S.types.length + 1 + (d + 1)) i=endI S (S.types.length + 1 + d) i:=by
  intro d
  induction d with
  | zero=>exact hst
  | succ d ih=>
   intro i;show endI S (S.types.length + 1 + (d + 1) + 1) i=endI S (S.types.length + 1 + d + 1) i;rw [endI,endI]
   cases hx:S.types[i]? with
   | none=>rfl
   | some x=>
    simp only;split
    ·exact ih _
    ·rfl
 intro k hk i;obtain ⟨d,rfl⟩:∃ d,k=S.types.length + 1 + d:=⟨k - (S.types.length + 1),by omega⟩;clear hk
 induction d with
 | zero=>rfl
 | succ d ih=>rw [key,ih]
theorem end99_spec (S:Sch) (hl:S.types.length<=64) (hr:∀ x∈S.types,refB S x.2=true) (i:Nat) (hi:i < S.types.length) :
  EvP Tryz.prog 177 [.agg (dSch S),.v (.int .i64 i),.v (.int .i64 (99:Nat))] (.v (.int .i64 (oz (endI S (S.types.length + 1) i)))):=by
 have:=end18_spec S (by omega) hr 99 i hi (Nat.le_refl _)
 rwa [endI_enough (by omega)] at this
abbrev staSt (S:Sch) (k n e:Nat):St:=
 ⟨[(2,⟨[],.loc 0 0⟩),(5,⟨[],.v (.int .i64 k)⟩),(6,⟨[],.v (.int .i64 n)⟩),(7,⟨[],.v (.int .i64 e)⟩)],[dSch S],[]⟩
theorem start_spec (S:Sch) (hl:S.types.length<=64) (hs:nmsWt S.types<=1099511627776) (hr:∀ x∈S.types,refB S x.2=true) (s:ByteArray) (i k:Nat) (hi:ixOf (tL S) s=some i) (hk:endI S (S.types.length + 1) i=some k) :
  EvP Tryz.prog 90 [.agg (dSch S),.v (.string s)] (.v (.int .i64 (firstA S k))):=by
 have hN:=dNms_len S.types;have hil:=(ixOf_some hi).1;rw [tL_len] at hil;have hkl:=(endI_lt hk).1;have hf:=find18_spec S s (by omega);have he:=end99_spec S hl hr i hil;rw [hi] at hf;rw [hk] at he;have hfa:=@firstA_succ S;have hfb:=firstA_le S;obtain ⟨levels,order,types,⟨rh,rp⟩⟩:=S;simp only at hl hs hN hil hkl hfa hfb;refine ev_go (P:=Tryz.prog) tt tt_ok 5000 29 [.tmp 4] Tryz.func90 rfl Tryz.ntmps90 rfl (nL rfl) (fun E9 w9 hn9 hm9=>?_);refine drawG_i (fun _=>false) mo (by decide +kernel) ?_;refine callD_p en199 (hf) ax rfl ?_;refine callD_p en177 (he) ax rfl ?_;refine loop_i (fun j st=>∃ e:Nat,st=staSt ⟨levels,order,types,.mk rh rp⟩ k (firstA ⟨levels,order,types,.mk rh rp⟩ e) e/\e<=k/\j=k - e) k (staSt ⟨levels,order,types,.mk rh rp⟩ k (firstA ⟨levels,order,types,.mk rh rp⟩ 0) 0) (weak_mk ⟨_,rfl⟩ wA rfl rfl rfl wB) ⟨0,rfl,by omega,by omega⟩ ?_;rintro j st ⟨e,rfl,hek,rfl⟩;refine br (fun hL=>?_) (fun hL=>?_)
 ·have hlt:e < k:=by simpa using hL
  obtain ⟨x,hx⟩:∃ x,types[e]? = some x:=⟨_,gE (by omega)⟩;have hws:=nmsWt_mem (mG hx);have h1:=hfa hx;have h2:=hfb e;have h3:=hfb (e + 1);have h4:=flatT_len x.2;obtain ⟨xw,⟨xh,xp⟩⟩:=x;simp only at hws h1 h4;refine ⟨_,⟨by omega,dNms_get hx⟩,?_⟩;refine call_p en88 (flat_spec _ (.mk xh xp) (Nat.le_refl _) (by omega)) ax rfl ?_
  have hw4:IntKind.i64.wrap ((firstA ⟨levels,order,types,.mk rh rp⟩ e:Int) + (dTys (flatT (.mk xh xp))).length)=(firstA ⟨levels,order,types,.mk rh rp⟩ (e + 1):Int):=by
   rw [dTys_len,wrap64 (by omega) (by omega)];omega
  exact ⟨staSt ⟨levels,order,types,.mk rh rp⟩ k (firstA ⟨levels,order,types,.mk rh rp⟩ (e + 1)) (e + 1),(weak_mk ⟨_,rfl⟩ wA rfl rfl rfl (by repeat' (first | exact trivial | exact we_rfl rfl | exact we_int hw4 | exact we_int (nxt hlt (by omega)) | refine ⟨⟨_,rfl,?_⟩,?_⟩))),k - (e + 1),by omega,e + 1,rfl,by omega,rfl⟩
 ·have hge:e=k:=by have:=hL;simp at this;omega
  subst hge;exact (rfl:_=_)
theorem tNm_get {S:Sch} {e:Nat} {x:Wd × Ty} (h:S.types[e]? = some x):(tNm S)[e]? = some x.1:=by simp [tNm,h]
abbrev nmdSt (S:Sch) (e:Nat):St:=
 ⟨[(1,⟨[],.loc 0 0⟩),(2,⟨[],.loc 1 0⟩),(3,⟨[],.v (.int .i64 e)⟩)],[dSch S,[.v (.int .i64 0),.v (.int .i64 0)]],[]⟩
theorem named18_spec (S:Sch) (hs:nmsWt S.types<=1099511627776) :
  EvP Tryz.prog 174 [.agg (dSch S)] (namedF S).d:=by
 have hN:=dNms_len S.types;have hnl:=nmsWt_len S.types;have htl:=tNm_len S;have hF:=namedF.eq_1 S;have hget:=@tNm_get S;have hfi:=fun s=>find18_spec S s (by omega);have hTL:tL S=nmTx (tNm S):=rfl;obtain ⟨levels,order,types,⟨rh,rp⟩⟩:=S;simp only at hs hN hnl htl hget hF;generalize hQ:tNm ⟨levels,order,types,.mk rh rp⟩=Q at htl hF hget hTL;refine ev_go (P:=Tryz.prog) tt tt_ok 5000 47 [.cell 2 46] Tryz.func174 rfl Tryz.ntmps174 rfl (nL rfl) (fun E9 w9 hn9 hm9=>?_);generalize namedF ⟨levels,order,types,.mk rh rp⟩=F at hF ⊢;refine br (fun h=>?_) (fun h=>?_)
 ·have h:64 < types.length:=by simp [hN] at h;omega
  obtain ⟨x,hx⟩:∃ x,types[64]? = some x:=⟨_,gE h⟩;have hxn:=hget hx;rw [if_pos h,atN_get hxn] at hF;obtain ⟨xw,⟨xh,xp⟩⟩:=x;refine ⟨_,⟨by omega,dNms_get hx⟩,?_⟩;refine ⟨_,?_,rfl⟩;rw [hF];exact ax
 have h:¬ 64 < types.length:=by simp [hN] at h;omega
 rw [if_neg h] at hF;refine loop_i (fun j st=>∃ e:Nat,st=nmdSt ⟨levels,order,types,.mk rh rp⟩ e/\e<=types.length/\enumL Q 0 Q=enumL Q e (Q.drop e)/\j=types.length - e) types.length (nmdSt ⟨levels,order,types,.mk rh rp⟩ 0) (weak_mk ⟨_,rfl⟩ wA rfl rfl rfl wB) ⟨0,rfl,by omega,rfl,by omega⟩ ?_;rintro j st ⟨e,rfl,he,heq,rfl⟩;rw [heq] at hF;refine br (fun hL=>?_) (fun hL=>?_)
 ·have hlt:e < types.length:=by have:=hL;simp [hN] at this;exact this
  obtain ⟨x,hx⟩:∃ x,types[e]? = some x:=⟨_,gE hlt⟩;have hws:=nmsWt_mem (mG hx);have hq:=hget hx;have hst:=enumL_drop hq;obtain ⟨p,hp,hpd⟩:=dup_ix hq;obtain ⟨xw,⟨xh,xp⟩⟩:=x;simp only [Wd.wt] at hws hq hst hp hpd;have hf:=hfi xw.s;rw [hTL,hp] at hf;have hlab:=label15_spec [xw] (by simp only [wdsWt,Wd.wt];omega);have hlf:labelF [xw]=if nameOK xw.s then (0,0) else (9,xw.a):=by simp [labelF,badWd]
  refine ⟨_,⟨by omega,dNms_get hx⟩,?_⟩;refine call_p en294 (hlab) ax rfl ?_;refine br (fun hN=>?_) (fun hN=>?_)
  ·have hN:(labelF [xw]).1≠0:=by simpa using hN
   cases hok:nameOK xw.s with
   | true=>rw [hlf,hok] at hN;exact absurd rfl hN
   | false=>
   rw [hok] at hlf;have hlf:labelF [xw]=(9,xw.a):=hlf;have hf9:listedF Q e xw=9:=by simp [listedF,hok]
   rw [hst,hf9,if_pos (by decide)] at hF;refine ⟨_,?_,rfl⟩;rw [hF,hlf];exact ax
  ·have hN:(labelF [xw]).1=0:=by simpa using hN
   cases hok:nameOK xw.s with
   | false=>rw [hlf,hok] at hN;exact absurd hN (by simp)
   | true=>
   refine call_p en199 (hf) ax rfl ?_;refine br (fun h2=>?_) (fun h2=>?_)
   ·have h2:p < e:=by have:=h2;simp [oz] at this;exact this
    have hf10:listedF Q e xw=10:=by simp [listedF,hok,hpd.1 h2]
    rw [hst,hf10,if_pos (by decide)] at hF;refine ⟨_,?_,rfl⟩;rw [hF];exact ax
   ·have h2:¬ p < e:=by have:=h2;simp [oz] at this;omega
    have hd:dupBefore (Q.take e) xw.s=false:=by
     cases hd:dupBefore (Q.take e) xw.s
     ·rfl
     ·exact absurd (hpd.2 hd) h2
    have hf0:listedF Q e xw=0:=by simp [listedF,hok,hd]
    rw [hf0,if_neg (by simp)] at hst;exact ⟨nmdSt ⟨levels,order,types,.mk rh rp⟩ (e + 1),(weak_mk ⟨_,rfl⟩ wA rfl rfl rfl (wNB hlt)),types.length - (e + 1),by omega,e + 1,rfl,by omega,by rw [heq,hst],rfl⟩
 ·have hge:e=types.length:=by have:=hL;simp [hN] at this;omega
  rw [hge,<- htl,List.drop_length] at hF;refine ⟨_,?_,rfl⟩;rw [hF];exact ax
abbrev unkSt (S:Sch) (t:Ty) (e:Nat):St:=
 ⟨[(2,⟨[],.loc 0 0⟩),(3,⟨[],.loc 1 0⟩),(4,⟨[],.loc 2 0⟩),(5,⟨[],.v (.int .i64 e)⟩)],[dSch S,dTy t,[.v (.int .i64 0),.v (.int .i64 0)]],[]⟩
theorem unknown_spec (S:Sch) (hl:S.types.length<=1099511627776) (hs:wdsWt S.levels<=1099511627776):∀ (k:Nat) (t:Ty),t.wt<=k->t.wt<=1099511627776 ->
  EvP Tryz.prog 176 [.agg (dSch S),.agg (dTy t)] (knS S t).d
 | 0,t,hn,_=>by have:=t.wt_pos;omega
 | k + 1,.mk h ps,hn,hbig=>by
  have ih:=unknown_spec S hl hs k;simp only [Ty.wt,Hd.wt] at hn hbig;have hpl:=ps.wt_len;have hf:=find18_spec S h.name.s hl;have hwd:=fun l hl=>word18_spec S hs l hl;have hS:knS S (.mk h ps)=if h.kind=9/\ixOf (tL S) h.name.s=none then (15,h.name.a) else knP ⟨nmTx S.levels,[],[],[],fun _ _=>false⟩ (tL S) ps:=by rw [knS,knT]
  have hS0:knP ⟨nmTx S.levels,[],[],[],fun _ _=>false⟩ (tL S) ps=knP ⟨nmTx S.levels,[],[],[],fun _ _=>false⟩ (tL S) (ps.drop 0):=by rw [Pts.drop]
  have hK:∀ e p u,ps.toList[e]? = some (p,u)->knP ⟨nmTx S.levels,[],[],[],fun _ _=>false⟩ (tL S) (ps.drop e)=if (labW (nmTx S.levels) p.label).1≠0 then labW (nmTx S.levels) p.label else if (labW (nmTx S.levels) p.cl).1≠0 then labW (nmTx S.levels) p.cl else if p.bare then knP ⟨nmTx S.levels,[],[],[],fun _ _=>false⟩ (tL S) (ps.drop (e + 1)) else if (knS S u).1≠0 then knS S u else knP ⟨nmTx S.levels,[],[],[],fun _ _=>false⟩ (tL S) (ps.drop (e + 1)):=fun e p u hx=>by
   rw [Pts.drop_cons hx,knP];all_goals rfl
  have hK0:knP ⟨nmTx S.levels,[],[],[],fun _ _=>false⟩ (tL S) .nil=(0,0):=by rw [knP]
  generalize knP ⟨nmTx S.levels,[],[],[],fun _ _=>false⟩ (tL S)=KP at hS hS0 hK hK0;obtain ⟨levels,order,types,⟨rh,rp⟩⟩:=S;refine ev_go (P:=Tryz.prog) tt tt_ok 5000 64 [.cell 4 46] Tryz.func176 rfl Tryz.ntmps176 rfl (nL rfl) (fun E9 w9 hn9 hm9=>?_);generalize knS ⟨levels,order,types,.mk rh rp⟩ (.mk h ps)=F at hS ⊢;refine have body:=?_;br (fun h9=>call_p en199 hf ax rfl (br (fun hx=>?_) (fun hx=>loop_i (fun j st=>∃ e:Nat,st=unkSt ⟨levels,order,types,.mk rh rp⟩ (.mk h ps) e/\e<=ps.len/\F=KP (ps.drop e)/\j=ps.len - e) ps.len (unkSt ⟨levels,order,types,.mk rh rp⟩ (.mk h ps) 0) (weak_mk ⟨_,rfl⟩ wA rfl rfl rfl wB) ⟨0,rfl,by omega,?_,by omega⟩ body))) (fun h9=>loop_i (fun j st=>∃ e:Nat,st=unkSt ⟨levels,order,types,.mk rh rp⟩ (.mk h ps) e/\e<=ps.len/\F=KP (ps.drop e)/\j=ps.len - e) ps.len (unkSt ⟨levels,order,types,.mk rh rp⟩ (.mk h ps) 0) (weak_mk ⟨_,rfl⟩ wA rfl rfl rfl wB) ⟨0,rfl,by omega,?_,by omega⟩ body)
  rotate_left
  ·have h9:h.kind=9:=by simpa using h9
   have hx:ixOf (tL ⟨levels,order,types,.mk rh rp⟩) h.name.s=none:=oz_neg.1 (by simpa [pickB] using hx);rw [if_pos ⟨h9,hx⟩] at hS;refine ⟨_,?_,rfl⟩;rw [hS];exact ax
  ·have hx:¬ ixOf (tL ⟨levels,order,types,.mk rh rp⟩) h.name.s=none:=fun hn=>by
    have h3:=oz_neg.2 hn;simp [pickB] at hx;have h3:=of_decide_eq_true h3;omega
   rw [if_neg (fun hc=>hx hc.2),hS0] at hS;exact hS
  ·have h9:¬ h.kind=9:=by simpa using h9
   rw [if_neg (fun hc=>h9 hc.1),hS0] at hS;exact hS
  rintro j st ⟨e,rfl,he,heq,rfl⟩;refine br (fun hL=>?_) (fun hL=>?_)
  ·have hlt:e < ps.len:=by simpa [dPts_len] using hL
   obtain ⟨p,t,hx⟩:=Pts.get_lt hlt;have hwt:=Pts.wt_mem (mG hx);have hk:=hK e p t hx;have hw1:wdsWt p.label + wdsWt p.cl<=p.wt:=by simp only [Ph.wt];omega
   obtain ⟨u,us⟩:=t;refine ⟨_,⟨by omega,dPts_get hx⟩,?_⟩;refine call_p en300 (hwd p.label (by omega)) ax rfl ?_;refine br (fun b1=>?_) (fun b1=>?_)
   ·have b1:(labW (nmTx levels) p.label).1=0:=by simpa using b1
    rw [if_neg (by simp [b1])] at hk;refine call_p en300 (hwd p.cl (by omega)) ax rfl ?_;refine br (fun b2=>?_) (fun b2=>?_)
    ·have b2:(labW (nmTx levels) p.cl).1=0/\p.bare=false:=by
      rw [pickB_and] at b2;simpa using b2
     obtain ⟨b2,b3⟩:=b2;rw [if_neg (by simp [b2]),if_neg (by simp [b3])] at hk;refine call_p en176 (ih (.mk u us) (by omega) (by omega)) ax rfl ?_;refine br (fun b4=>?_) (fun b4=>?_)
     ·have b4:(knS ⟨levels,order,types,.mk rh rp⟩ (.mk u us)).1≠0:=by simpa using b4
      rw [if_pos b4] at hk
      (refine ⟨_,?_,rfl⟩;rw [heq,hk];exact ax)
     ·have b4:(knS ⟨levels,order,types,.mk rh rp⟩ (.mk u us)).1=0:=by simpa using b4
      rw [if_neg (by simp [b4])] at hk;exact ⟨unkSt ⟨levels,order,types,.mk rh rp⟩ (.mk h ps) (e + 1),(weak_mk ⟨_,rfl⟩ wA rfl rfl rfl (wNB hlt)),ps.len - (e + 1),by omega,e + 1,rfl,by omega,by rw [heq,hk],rfl⟩
    ·refine br (fun b4=>?_) (fun b4=>?_)
     ·have b4:(labW (nmTx levels) p.cl).1≠0:=by simpa using b4
      rw [if_pos b4] at hk
      (refine ⟨_,?_,rfl⟩;rw [heq,hk];exact ax)
     ·have b4:(labW (nmTx levels) p.cl).1=0:=by simpa using b4
      have b3:p.bare=true:=by
       rw [pickB_and] at b2;simpa [b4] using b2
      rw [if_neg (by simp [b4]),if_pos b3] at hk;exact ⟨unkSt ⟨levels,order,types,.mk rh rp⟩ (.mk h ps) (e + 1),(weak_mk ⟨_,rfl⟩ wA rfl rfl rfl (wNB hlt)),ps.len - (e + 1),by omega,e + 1,rfl,by omega,by rw [heq,hk],rfl⟩
   ·have b1:¬ (labW (nmTx levels) p.label).1=0:=by simpa using b1
    rw [if_pos b1] at hk;refine br (fun b2=>?_) (fun b2=>?_)
    ·rw [pickB_and] at b2;simp [b1] at b2
    ·refine br (fun b4=>?_) (fun b4=>?_)
     ·(refine ⟨_,?_,rfl⟩;rw [heq,hk];exact ax)
     ·simp [b1] at b4
  ·have hge:e=ps.len:=by simp [dPts_len] at hL;omega
   rw [hge,Pts.drop_len] at heq;refine ⟨_,?_,rfl⟩;rw [heq,hK0];exact ax
abbrev wrongSt (h:Hd) (ps:Pts) (e:Nat) (depth m:Int):St:=
 ⟨[(2,⟨[],.v (.int .i64 depth)⟩),(3,⟨[],.loc 0 0⟩),(4,⟨[],.loc 1 0⟩),(6,⟨[],.loc 2 0⟩),(7,⟨[],.v (.int .i64 e)⟩)],[[.v (.int .i64 0),.v (.int .i64 0),.v (.int .i64 m)],dTy (.mk h ps),[.v (.int .i64 0),.v (.int .i64 0),.v (.int .i64 0)]],[]⟩
theorem wrong15_step (k:Nat) (ih:WrongOK k) (h:Hd) (ps:Pts) (depth m:Int) (hk:ps.wt<=k) (hbig:(Ty.mk h ps).wt<=1099511627776) (hd0:0<=depth) (hd1:depth<=25) (hm0:0<=m) (hm1:m<=512) :
  EvP Tryz.prog 175 [wD (0,0) m,.agg (dTy (.mk h ps)),.v (.int .i64 depth)] (wD (wrong (.mk h ps) depth m).1 (wrong (.mk h ps) depth m).2):=by
 have hbig':=hbig;simp only [Ty.wt,Hd.wt] at hbig';have hpl:=ps.wt_len;have hnw:=wdsWt_len h.names;have hmw:IntKind.i64.wrap (m + 1)=m + 1:=wrap64 (by omega) (by omega)
 have hW:∀ e a,EvP Tryz.prog 295 [.agg [.v (.int .i64 0),.v (.int .i64 0),.v (.int .i64 (IntKind.i64.wrap (m + 1)))],.v (.int .i64 e),.v (.int .i64 a)] (wD (e,a) (m + 1)):=by
  intro e a;rw [hmw];exact with15_spec (0,0) (m + 1) e a
 have hS:=wrong.eq_def (.mk h ps) depth m;simp only at hS;refine ev_go (P:=Tryz.prog) tt tt_ok 5000 201 [.cell 6 263] Tryz.func175 rfl Tryz.ntmps175 rfl (nL rfl) (fun E9 w9 hn9 hm9=>?_);refine br (fun c=>?_) (fun c=>?_)
 ·have c:24 < depth:=of_decide_eq_true c;refine call_p en295 (hW 6 h.at') ax rfl ?_;rw [if_pos c] at hS;refine ⟨_,?_,rfl⟩;rw [hS];exact ax
 have c:¬ 24 < depth:=of_decide_eq_false c;rw [if_neg c] at hS;refine br (fun c=>?_) (fun c=>?_)
 ·have c:512 < IntKind.i64.wrap (m + 1):=of_decide_eq_true c;rw [hmw] at c;refine call_p en295 (hW 8 h.at') ax rfl ?_;rw [if_pos c] at hS;refine ⟨_,?_,rfl⟩;rw [hS];exact ax
 have c:¬ 512 < IntKind.i64.wrap (m + 1):=of_decide_eq_false c;rw [hmw] at c;rw [if_neg c] at hS;refine br (fun c=>?_) (fun c=>?_)
 ·have c:h.kind < 1∨9 < h.kind:=by simpa [pickB_or] using c
  refine call_p en295 (hW 14 h.at') ax rfl ?_;rw [if_pos c] at hS;refine ⟨_,?_,rfl⟩;rw [hS];exact ax
 have c:¬ (h.kind < 1∨9 < h.kind):=by simp [pickB_or] at c;omega
 rw [if_neg c] at hS;refine call_p en296 (own15_spec (.mk h ps) (by omega)) ax rfl ?_;refine br (fun c=>?_) (fun c=>?_)
 ·have c:ownB (.mk h ps)=false:=by simpa [ownB] using c
  refine call_p en295 (hW 19 h.at') ax rfl ?_;rw [if_pos c] at hS;refine ⟨_,?_,rfl⟩;rw [hS];exact ax
 have c:¬ ownB (.mk h ps)=false:=by simpa [ownB] using c
 rw [if_neg c] at hS;refine br (fun c=>?_) (fun c=>?_)
 ·have c:(h.kind=2/\h.hi < h.lo)∨(h.kind=3/\(h.most < 0∨4096 < h.most)):=by simp [pickB_or,pickB_and] at c;omega
  refine call_p en295 (hW 20 h.at') ax rfl ?_;rw [if_pos c] at hS;refine ⟨_,?_,rfl⟩;rw [hS];exact ax
 have c:¬ ((h.kind=2/\h.hi < h.lo)∨(h.kind=3/\(h.most < 0∨4096 < h.most))):=by simp [pickB_or,pickB_and] at c;omega
 rw [if_neg c] at hS;refine br (fun k9=>?_) (fun k9=>?_)
 ·have k9:h.kind=9:=by simpa using k9
  refine call_p en290 (right8_spec h.name.s (by simp only [Wd.wt] at hbig';omega)) ax rfl ?_;refine br (fun q=>?_) (fun q=>?_)
  ·have q:nameOK h.name.s=false:=by simpa [pickB_and,k9] using q
   refine call_p en295 (hW 9 h.name.a) ax rfl ?_;rw [if_pos ⟨k9,q⟩] at hS;refine ⟨_,?_,rfl⟩;rw [hS];exact ax
  ·have q:nameOK h.name.s=true:=by simpa [pickB_and,k9] using q
   rw [if_neg (by simp [q]),if_neg (by omega),if_neg (by omega),if_neg (by omega)] at hS;refine br (fun x=>?_) (fun _=>?_)
   ·have:=of_decide_eq_true x;omega
   refine br (fun x=>?_) (fun _=>?_)
   ·simp [pickB_or] at x;omega
   refine br (fun x=>?_) (fun _=>?_)
   ·simp [pickB_or] at x;omega
   refine ⟨_,?_,rfl⟩;rw [hS];exact (aI hmw)
 ·have k9:¬ h.kind=9:=by simpa using k9
  rw [if_neg (by simp [k9])] at hS;refine br (fun k4=>?_) (fun k4=>?_)
  ·have k4:h.kind=4:=of_decide_eq_true k4;rw [if_pos k4] at hS;refine br (fun c=>?_) (fun c=>?_)
   ·have c:h.names=[]:=by simp [dWds_len] at c;exact c
    refine call_p en295 (hW 15 h.at') ax rfl ?_;refine ⟨_,?_,rfl⟩;rw [hS];simp only [enumWd,if_pos c];exact ax
   have c:¬ h.names=[]:=by simp [dWds_len] at c;exact c
   refine br (fun c2=>?_) (fun c2=>?_)
   ·have hlt:64 < h.names.length:=by simp [dWds_len] at c2;omega
    obtain ⟨x,hx⟩:∃ x,h.names[64]? = some x:=⟨_,gE hlt⟩;refine drawG_s mo (by decide +kernel) ?_;refine ⟨dWd x,⟨by omega,dWds_get hx⟩,?_⟩;refine callD_p en295 (hW 8 x.a) ax rfl ?_;refine ⟨_,?_,rfl⟩;rw [hS];simp only [enumWd,if_neg c,if_pos hlt,hx,Option.getD_some];exact ax
   have c2:¬ 64 < h.names.length:=by simp [dWds_len] at c2;omega
   have hE:enumWd h=enumL h.names 0 h.names:=by simp only [enumWd,if_neg c,if_neg c2]
   rw [hE] at hS
   refine loop_i (fun j st=>∃ (e:Nat),st=wrongSt h ps e depth (m + 1)/\e<=h.names.length/\enumL h.names 0 h.names=enumL h.names e (h.names.drop e)/\j=h.names.length - e) h.names.length
    (wrongSt h ps 0 depth (m + 1)) (weak_b 3 rfl (by repeat' (first | exact rfl | exact we_rfl rfl | exact we_int hmw | refine ⟨_,_,rfl,?_,?_⟩)) rfl rfl rfl (by repeat' (first | exact trivial | exact we_rfl rfl | exact we_int hmw | refine ⟨⟨_,rfl,?_⟩,?_⟩))) ⟨0,rfl,by omega,rfl,by omega⟩ ?_
   rintro j st ⟨e,rfl,he,heq,rfl⟩;refine br (fun hL=>?_) (fun hL=>?_)
   ·have hlt:e < h.names.length:=by simpa [dWds_len] using hL
    obtain ⟨x,hx⟩:∃ x,h.names[e]? = some x:=⟨_,gE hlt⟩;rw [drop_cons hx] at heq;simp only [enumL] at heq;refine call_p en297 (listed15_spec h.names e x (by omega) hx) ax rfl ?_;refine br (fun hl=>?_) (fun hl=>?_)
    ·have hl:listedF h.names e x≠0:=by simpa using hl
     rw [if_pos hl] at heq;refine drawG_s mo (by decide +kernel) ?_;refine ⟨dWd x,⟨by omega,dWds_get hx⟩,?_⟩;refine callD_p en295 (with15_spec (0,0) (m + 1) _ x.a) ax rfl ?_;refine ⟨_,?_,rfl⟩;rw [hS,heq];exact ax
    ·have hl:listedF h.names e x=0:=by simpa using hl
     rw [if_neg (by simp [hl])] at heq;exact ⟨wrongSt h ps (e + 1) depth (m + 1),(weak_mk ⟨_,rfl⟩ wA rfl rfl rfl (wNB hlt)),h.names.length - (e + 1),by omega,e + 1,rfl,by omega,heq,rfl⟩
   ·have hge:e=h.names.length:=by simp [dWds_len] at hL;omega
    rw [hge,List.drop_length] at heq;simp only [enumL] at heq;rw [heq] at hS;refine br (fun x=>?_) (fun _=>?_)
    ·simp [pickB_or] at x;omega
    refine br (fun x=>?_) (fun _=>?_)
    ·simp [pickB_or] at x;omega
    refine ⟨_,?_,rfl⟩;rw [hS];exact ax
  ·have k4:¬ h.kind=4:=of_decide_eq_false k4;rw [if_neg k4] at hS;refine br (fun k5=>?_) (fun k5=>?_)
   ·have k5:h.kind=5∨h.kind=6:=by simpa [pickB_or] using k5
    rw [if_pos k5] at hS
    cases ps with
    | nil=>
     refine call_p en295 (hW 19 h.at') ax rfl ?_;refine ⟨_,?_,rfl⟩;rw [hS];simp only [wrongOne];exact ax
    | cons p t r=>
     cases r with
     | cons p2 t2 r2=>
      refine call_p en295 (hW 19 h.at') ax rfl ?_;refine ⟨_,?_,rfl⟩;rw [hS];simp only [wrongOne];exact ax
     | nil=>
      obtain ⟨u,us⟩:=t;simp only [wrongOne] at hS;simp only [Ty.wt,Pts.wt] at hbig' hk;refine ⟨_,⟨by omega,rfl⟩,?_⟩;refine br (fun c=>?_) (fun c=>?_)
      ·have c:p.name.s=emptyB:=by
        have:=c;simp [pickB_or] at this;exact this
       refine ⟨_,⟨by omega,rfl⟩,?_⟩;refine call_p en298 (plain15_spec p zeroPh (dTy (.mk u us)) (dTy zeroTy) (by omega) (cc_ty _ _ _ _ _) (cc_ty _ _ _ _ _)) ax rfl ?_;refine br (fun q=>?_) (fun q=>?_)
       ·have q:plainP p zeroPh=false:=by simpa [pickB_or,c] using q
        refine call_p en295 (hW 19 h.at') ax rfl ?_;rw [if_pos (by simp [q])] at hS;refine ⟨_,?_,rfl⟩;rw [hS];exact ax
       ·have q:plainP p zeroPh=true:=by simpa [pickB_or,c] using q
        rw [if_neg (by simp [q,c])] at hS;refine br (fun x=>?_) (fun x=>?_)
        ·have x:h.most < 0∨1024 < h.most:=by simpa [pickB_or] using x
         refine call_p en295 (hW 20 h.at') ax rfl ?_;rw [if_pos x] at hS;refine ⟨_,?_,rfl⟩;rw [hS];exact ax
        ·have x:¬ (h.most < 0∨1024 < h.most):=by simp [pickB_or] at x;omega
         rw [if_neg x] at hS;refine drawG_s mo (by decide +kernel) ?_;refine ⟨_,⟨by omega,rfl⟩,?_⟩;refine callD_p en175 (ih (.mk u us) (depth + 1) (m + 1) (by simp only [Ty.wt];omega) (by simp only [Ty.wt];omega) (by omega) (by omega) (by omega) (by omega)) (by repeat' (first | exact rfl | exact trivial | exact Or.inr (Or.inl ⟨_,rfl⟩) | exact Or.inr ⟨_,rfl⟩ | exact Or.inl ⟨rfl,rfl⟩ | exact Or.inl rfl | refine Or.inr ⟨_,_,rfl,Nat.zero_le _,rfl,?_⟩ | refine ⟨_,_,rfl,?_,?_⟩ | refine ⟨_,rfl,?_⟩ | exact congrArg (fun z=>DV.v (.int .i64 z)) hmw | exact congrArg (fun z=>DV.v (.int .i64 z)) (wrap64 (by omega) (by omega))| refine Or.inr (Or.inr (Or.inr ⟨_,_,rfl,?_⟩)) | exact Or.inl rfl | refine Or.inr ?_)) rfl ?_;refine ⟨_,?_,rfl⟩;rw [hS];exact ax
      ·have c:p.name.s≠emptyB:=by
        have:=c;simp [pickB_or] at this;exact this
       refine call_p en295 (hW 19 h.at') ax rfl ?_;rw [if_pos (.inl c)] at hS;refine ⟨_,?_,rfl⟩;rw [hS];exact ax
   ·have k5:¬ (h.kind=5∨h.kind=6):=by simp [pickB_or] at k5;omega
    rw [if_neg k5] at hS;refine br (fun k7=>?_) (fun k7=>?_)
    ·have k7:h.kind=7∨h.kind=8:=by simpa [pickB_or] using k7
     rw [if_pos k7] at hS;have hP:wrong (.mk h ps) depth m=partsF h ps depth (m + 1):=by rw [hS];all_goals rfl
     refine call_p en299 (parts15_spec k ih h ps depth (m + 1) hk hbig hd0 (by omega) (by omega) (by omega)) (by repeat' (first | exact rfl | exact trivial | exact Or.inr (Or.inl ⟨_,rfl⟩) | exact Or.inr ⟨_,rfl⟩ | exact Or.inl ⟨rfl,rfl⟩ | exact Or.inl rfl | refine Or.inr ⟨_,_,rfl,Nat.zero_le _,rfl,?_⟩ | refine ⟨_,_,rfl,?_,?_⟩ | refine ⟨_,rfl,?_⟩ | exact congrArg (fun z=>DV.v (.int .i64 z)) hmw| refine Or.inr (Or.inr (Or.inr ⟨_,_,rfl,?_⟩)) | exact Or.inl rfl | refine Or.inr ?_)) rfl ?_;refine ⟨_,?_,rfl⟩;rw [hP];exact ax
    ·have k7:¬ (h.kind=7∨h.kind=8):=by simp [pickB_or] at k7;omega
     rw [if_neg k7] at hS;refine ⟨_,?_,rfl⟩;rw [hS];exact (aI hmw)
theorem wrong_any:∀ k,WrongOK k
 | 0=>fun t depth m hk=>by have:=t.wt_pos;omega
 | k + 1=>fun t depth m hk hbig hd0 hd1 hm0 hm1=>by
  obtain ⟨h,ps⟩:=t;have hk':=hk;simp only [Ty.wt,Hd.wt] at hk';exact wrong15_step k (wrong_any k) h ps depth m (by omega) hbig hd0 hd1 hm0 hm1
theorem wrong15_spec (t:Ty) (depth m:Int) (hbig:t.wt<=1099511627776) (hd0:0<=depth) (hd1:depth<=25) (hm0:0<=m) (hm1:m<=512) :
  EvP Tryz.prog 175 [wD (0,0) m,.agg (dTy t),.v (.int .i64 depth)] (wD (wrong t depth m).1 (wrong t depth m).2):=
 wrong_any t.wt t depth m (Nat.le_refl _) hbig hd0 hd1 hm0 hm1
def eaA:List Ty->Int->Ft × Int
 | [],m=>((0,0),m)
 | t :: r,m=>if (rightF t m).1.1≠0 then rightF t m else eaA r (rightF t m).2
theorem eaA_eq (z:Ty):∀ (l:List (Wd × Ty)) (m:Int),((eaA (l.map (fun x=>x.2) ++ [z]) m).1.1=0↔(eaR z l m).1.1=0)/\((eaR z l m).1.1≠0->eaA (l.map (fun x=>x.2) ++ [z]) m=eaR z l m)
 | [],m=>by
  show ((eaA [z] m).1.1=0↔(rightF z m).1.1=0)/\((rightF z m).1.1≠0->eaA [z] m=rightF z m);simp only [eaA];by_cases h:(rightF z m).1.1=0
  ·simp [h]
  ·simp [h]
 | x :: r,m=>by
  have ih:=eaA_eq z r (rightF x.2 m).2;simp only [List.map_cons,List.cons_append,eaA,eaR];by_cases h:(rightF x.2 m).1.1=0
  ·simp only [h,ne_eq,not_true,if_false];exact ih
  ·simp [h]
def eaK (F:Ty->Ft):List Ty->Ft
 | []=>(0,0)
 | t :: r=>if (F t).1≠0 then F t else eaK F r
theorem eaK_eq (F:Ty->Ft) (z:Ty):∀ l:List (Wd × Ty),((eaK F (l.map (fun x=>x.2) ++ [z])).1=0↔(eaL F (F z) l).1=0)/\((eaL F (F z) l).1≠0->eaK F (l.map (fun x=>x.2) ++ [z])=eaL F (F z) l)
 | []=>by
  show ((eaK F [z]).1=0↔(F z).1=0)/\((F z).1≠0->eaK F [z]=F z);simp only [eaK];by_cases h:(F z).1=0
  ·simp [h]
  ·simp [h]
 | x :: r=>by
  have ih:=eaK_eq F z r;simp only [List.map_cons,List.cons_append,eaK,eaL];by_cases h:(F x.2).1=0
  ·simp only [h,ne_eq,not_true,if_false];exact ih
  ·simp [h]
theorem eaK_ok {F:Ty->Ft}:∀ {l:List Ty},(eaK F l).1=0->∀ t∈l,(F t).1=0
 | [],_,t,ht=>by cases ht
 | u :: r,h,t,ht=>by
  rw [eaK] at h;split at h
  ·rename_i h1;exact (h1 h).elim
  ·rename_i h1;rcases List.mem_cons.1 ht with rfl | ht
   ·simpa using h1
   ·exact eaK_ok h t ht
theorem resF_eq (S:Sch):resF S=if (latF S.levels S.order).1≠0 then latF S.levels S.order
 else if (namedF S).1≠0 then namedF S
 else if (eaA (allT S) 0).1.1≠0 then (eaA (allT S) 0).1
 else if (eaK (knS S) (allT S)).1≠0 then eaK (knS S) (allT S)
 else loopF S:=by
 have h1:=eaA_eq S.root S.types 0;have h2:=eaK_eq (knS S) S.root S.types;unfold resF allT tysOf;by_cases a:(eaR S.root S.types 0).1.1=0
 ·have a':=h1.1.2 a;simp only [a,a',ne_eq,not_true,if_false];by_cases b:(eaL (knS S) (knS S S.root) S.types).1=0
  ·have b':=h2.1.2 b;simp only [b,b',ne_eq,not_true,if_false]
  ·rw [h2.2 b]
 ·rw [h1.2 a];by_cases b:(eaL (knS S) (knS S S.root) S.types).1=0
  ·have b':=h2.1.2 b;simp only [b,b',a,ne_eq,not_true,not_false_eq_true,if_false,if_true]
  ·rw [h2.2 b]
abbrev w1St (S:Sch) (T:List Ty) (m:Int) (e:Nat):St:=
 ⟨[(1,⟨[],.loc 0 0⟩),(2,⟨[],.loc 1 0⟩),(5,⟨[],.sl 9 (dTys T) none⟩),(6,⟨[],.v (.int .i64 m)⟩),(7,⟨[],.v (.int .i64 e)⟩)],[dSch S,[.v (.int .i64 0),.v (.int .i64 0)]],[]⟩
abbrev w2St (S:Sch) (T:List Ty) (e:Nat):St:=
 ⟨[(1,⟨[],.loc 0 0⟩),(2,⟨[],.loc 1 0⟩),(5,⟨[],.sl 9 (dTys T) none⟩),(11,⟨[],.v (.int .i64 e)⟩)],[dSch S,[.v (.int .i64 0),.v (.int .i64 0)]],[]⟩
abbrev w3St (S:Sch) (e:Nat):St:=
 ⟨[(1,⟨[],.loc 0 0⟩),(2,⟨[],.loc 1 0⟩),(13,⟨[],.v (.int .i64 e)⟩)],[dSch S,[.v (.int .i64 0),.v (.int .i64 0)]],[]⟩
theorem allT_wt {S:Sch} (hs:S.wt<=1099511627776):∀ t∈allT S,t.wt<=1099511627776:=by
 intro t ht;unfold Sch.wt at hs;rcases List.mem_append.1 ht with h | h
 ·obtain ⟨x,hx,rfl⟩:=List.mem_map.1 h;have:=nmsWt_mem hx;omega
 ·simp only [List.mem_singleton] at h;subst h;omega
theorem wrong18_spec (S:Sch) (hs:S.wt<=1099511627776):EvP Tryz.prog 73 [.agg (dSch S)] (resF S).d:=by
 have hAl:=allT_wt hs;unfold Sch.wt at hs;have hN:=dNms_len S.types;have hnl:=nmsWt_len S.types;have hlat:=wrong11_spec S.levels S.order (by omega) (by omega);have hnam:=named18_spec S (by omega);have hall:=all_spec S (by omega);have hunk:=fun t ht=>unknown_spec S (by omega) (by omega) _ t (Nat.le_refl _) (hAl t ht);have hF:=resF_eq S;have hlen:(allT S).length=S.types.length + 1:=by simp [allT,tysOf]
 have hnF:(namedF S).1=0->S.types.length<=64:=fun h=>by
  unfold namedF at h;split at h
  ·cases h
  ·omega
 obtain ⟨levels,order,types,⟨rh,rp⟩⟩:=S;simp only at hs hN hnl hlat hnam hlen hnF hF;generalize hT:allT ⟨levels,order,types,.mk rh rp⟩=T at hAl hall hunk hlen hF;refine ev_go (P:=Tryz.prog) tt tt_ok 5000 104 [.cell 2 46] Tryz.func73 rfl Tryz.ntmps73 rfl (nL rfl) (fun E9 w9 hn9 hm9=>?_);generalize resF ⟨levels,order,types,.mk rh rp⟩=F at hF ⊢;refine call_p en173 (hlat) ax rfl ?_;refine br (fun h1=>?_) (fun h1=>?_)
 ·have h1:(latF levels order).1≠0:=by simpa using h1
  rw [if_pos h1] at hF;refine ⟨_,?_,rfl⟩;rw [hF];exact ax
 have h1:(latF levels order).1=0:=by simpa using h1
 rw [if_neg (by simp [h1])] at hF;refine call_p en174 (hnam) ax rfl ?_;refine br (fun h2=>?_) (fun h2=>?_)
 ·have h2:(namedF ⟨levels,order,types,.mk rh rp⟩).1≠0:=by simpa using h2
  rw [if_pos h2] at hF;refine ⟨_,?_,rfl⟩;rw [hF];exact ax
 have h2:(namedF ⟨levels,order,types,.mk rh rp⟩).1=0:=by simpa using h2
 rw [if_neg (by simp [h2])] at hF;have h64:=hnF h2;refine call_p en87 (hall) ax rfl ?_
 refine loop_i (fun j st=>∃ (e:Nat) (m:Int),st=w1St ⟨levels,order,types,.mk rh rp⟩ T m e/\e<=types.length + 1/\0<=m/\m<=512/\eaA T 0=eaA (T.drop e) m/\j=types.length + 1 - e) (types.length + 1)
  (w1St ⟨levels,order,types,.mk rh rp⟩ T 0 0) (weak_mk ⟨_,rfl⟩ wA rfl rfl rfl wB) ⟨0,0,rfl,by omega,by omega,by omega,rfl,by omega⟩ ?_
 rintro j st ⟨e,m,rfl,he,hm0,hm1,heq,rfl⟩;refine br (fun hL=>?_) (fun hL=>?_)
 ·have hlt:e < types.length + 1:=by have:=hL;simp [dTys_len,hlen] at this;omega
  obtain ⟨t,ht⟩:∃ t,T[e]? = some t:=⟨_,gE (by omega)⟩;have htw:=hAl t (mG ht);have hst:eaA (T.drop e) m=if (rightF t m).1.1≠0 then rightF t m else eaA (T.drop (e + 1)) (rightF t m).2:=by rw [drop_cons ht,eaA]
  have hrf:rightF t m=if (wrong t 1 0).1.1≠0 then ((wrong t 1 0).1,m) else if 512 < m + t.cnt then ((8,t.h.at'),m + t.cnt) else ((0,0),m + t.cnt):=rfl
  have hwr:=wrong15_spec t 1 0 htw (by omega) (by omega) (by omega) (by omega);have hsz:=size15_spec _ t (Nat.le_refl _) htw;have hcw:=t.cnt_wt;obtain ⟨u,us⟩:=t;refine ⟨_,⟨by omega,dTys_get ht⟩,?_⟩;refine call_p en175 (hwr) ax rfl ?_;refine br (fun g1=>?_) (fun g1=>?_)
  ·have g1:(wrong (.mk u us) 1 0).1.1≠0:=by simpa using g1
   rw [if_pos g1] at hrf;rw [heq,hst,hrf,if_pos g1,if_pos g1] at hF;refine ⟨_,?_,rfl⟩;rw [hF];exact ax
  have g1:(wrong (.mk u us) 1 0).1.1=0:=by simpa using g1
  rw [if_neg (by simp [g1])] at hrf;refine ⟨_,⟨by omega,dTys_get ht⟩,?_⟩;refine call_p en99 (hsz) ax rfl ?_;have hw4:IntKind.i64.wrap (m + ((Ty.mk u us).cnt:Int))=m + (Ty.mk u us).cnt:=wrap64 (by omega) (by omega);refine br (fun g2=>?_) (fun g2=>?_)
  ·have g2:512 < IntKind.i64.wrap (m + ((Ty.mk u us).cnt:Int)):=of_decide_eq_true g2;rw [hw4] at g2;rw [if_pos g2] at hrf;rw [heq,hst,hrf,if_pos (by simp),if_pos (by simp)] at hF;refine ⟨_,⟨by omega,dTys_get ht⟩,?_⟩;refine ⟨_,?_,rfl⟩;rw [hF];exact ax
  ·have g2:¬ 512 < IntKind.i64.wrap (m + ((Ty.mk u us).cnt:Int)):=of_decide_eq_false g2;rw [hw4] at g2;rw [if_neg g2] at hrf;rw [hrf,if_neg (by simp)] at hst;exact ⟨w1St ⟨levels,order,types,.mk rh rp⟩ T (m + (Ty.mk u us).cnt) (e + 1),(weak_mk ⟨_,rfl⟩ wA rfl rfl rfl (by repeat' (first | exact trivial | exact we_rfl rfl | exact we_int hw4 | exact we_int (nxt hlt (by omega)) | refine ⟨⟨_,rfl,?_⟩,?_⟩))),types.length + 1 - (e + 1),by omega,e + 1,_,rfl,by omega,by omega,by omega,by rw [heq,hst],rfl⟩
 have hge:e=types.length + 1:=by have:=hL;simp [dTys_len,hlen] at this;omega
 rw [heq,List.drop_of_length_le (by omega),show eaA [] m=((0,0),m) from rfl,if_neg (by simp)] at hF
 refine loop_i (fun j st=>∃ (e:Nat),st=w2St ⟨levels,order,types,.mk rh rp⟩ T e/\e<=types.length + 1/\eaK (knS ⟨levels,order,types,.mk rh rp⟩) T=eaK (knS ⟨levels,order,types,.mk rh rp⟩) (T.drop e)/\j=types.length + 1 - e) (types.length + 1)
  (w2St ⟨levels,order,types,.mk rh rp⟩ T 0) (weak_mk ⟨_,rfl⟩ wA rfl rfl rfl wB) ⟨0,rfl,by omega,rfl,by omega⟩ ?_
 clear heq hL hge he e;rintro j st ⟨e,rfl,he,heq,rfl⟩;refine br (fun hL=>?_) (fun hL=>?_)
 ·have hlt:e < types.length + 1:=by have:=hL;simp [dTys_len,hlen] at this;omega
  obtain ⟨t,ht⟩:∃ t,T[e]? = some t:=⟨_,gE (by omega)⟩;have hst:eaK (knS ⟨levels,order,types,.mk rh rp⟩) (T.drop e)=if (knS ⟨levels,order,types,.mk rh rp⟩ t).1≠0 then knS ⟨levels,order,types,.mk rh rp⟩ t else eaK (knS ⟨levels,order,types,.mk rh rp⟩) (T.drop (e + 1)):=by rw [drop_cons ht,eaK]
  have hu:=hunk t (mG ht);obtain ⟨u,us⟩:=t;apply drawG_two (fun _=>false) 5 6 [0,1,2,3,4,5,6,7] [0,1,2,3,4,6,5,7] 2 2 mo (by decide +kernel)
  ·refine ⟨_,⟨by omega,dTys_get ht⟩,?_⟩;refine callD_p en176 (hu) ax rfl ?_;refine (?_:@Eq St _ _);exact rfl
  ·refine ⟨_,⟨by omega,dTys_get ht⟩,?_⟩;refine callD_p en176 (hu) ax rfl ?_;refine (⟨rfl,rfl,?_⟩:_/\_/\_)
   repeat' (first | exact trivial | refine ⟨rfl,?_⟩)
  ·rfl
  refine br (fun g=>?_) (fun g=>?_)
  ·have g:(knS ⟨levels,order,types,.mk rh rp⟩ (.mk u us)).1≠0:=by simpa using g
   rw [heq,hst,if_pos g,if_pos g] at hF;refine ⟨_,?_,rfl⟩;rw [hF];exact ax
  ·have g:(knS ⟨levels,order,types,.mk rh rp⟩ (.mk u us)).1=0:=by simpa using g
   rw [if_neg (by simp [g])] at hst;exact ⟨w2St ⟨levels,order,types,.mk rh rp⟩ T (e + 1),(weak_mk ⟨_,rfl⟩ wA rfl rfl rfl (wNB hlt)),types.length + 1 - (e + 1),by omega,e + 1,rfl,by omega,by rw [heq,hst],rfl⟩
 have hge:e=types.length + 1:=by have:=hL;simp [dTys_len,hlen] at this;omega
 have hkn:(eaK (knS ⟨levels,order,types,.mk rh rp⟩) T).1=0:=by rw [heq,List.drop_of_length_le (by omega)];all_goals rfl
 rw [heq,List.drop_of_length_le (by omega),show eaK (knS ⟨levels,order,types,.mk rh rp⟩) []=(0,0) from rfl,if_neg (by simp)] at hF
 have hkr:∀ x∈types,refB ⟨levels,order,types,.mk rh rp⟩ x.2=true:=fun x hx=>knT_ref (eaK_ok hkn x.2 (by
  rw [<- hT]
  exact List.mem_append_left _ (List.mem_map_of_mem hx)))
 have he99:=end99_spec ⟨levels,order,types,.mk rh rp⟩ h64 hkr
 have hlo:F=match firstN (fun i=>(endI ⟨levels,order,types,.mk rh rp⟩ (types.length + 1) i).isNone) types.length with
  | none=>(0,0)
  | some i=>(11,atN (tNm ⟨levels,order,types,.mk rh rp⟩) i):=hF
 refine loop_i (fun j st=>∃ e:Nat,st=w3St ⟨levels,order,types,.mk rh rp⟩ e/\e<=types.length/\(∀ i,i < e->(endI ⟨levels,order,types,.mk rh rp⟩ (types.length + 1) i).isNone=false)/\j=types.length - e) types.length
  (w3St ⟨levels,order,types,.mk rh rp⟩ 0) (weak_mk ⟨_,rfl⟩ wA rfl rfl rfl wB) ⟨0,rfl,by omega,fun _ h=>by omega,by omega⟩ ?_
 clear heq hL hge he e;rintro j st ⟨e,rfl,he,hno,rfl⟩;refine br (fun hL=>?_) (fun hL=>?_)
 ·have hlt:e < types.length:=by have:=hL;simp [hN] at this;exact this
  obtain ⟨x,hx⟩:∃ x,types[e]? = some x:=⟨_,gE hlt⟩;have hxn:(tNm ⟨levels,order,types,.mk rh rp⟩)[e]? = some x.1:=tNm_get hx;have h9:=he99 e hlt;obtain ⟨xw,⟨xh,xp⟩⟩:=x;refine call_p en177 (h9) ax rfl ?_;refine br (fun g=>?_) (fun g=>?_)
  ·have g:endI ⟨levels,order,types,.mk rh rp⟩ (types.length + 1) e=none:=oz_neg.1 g;have hfn:=firstN_some (p:=fun i=>(endI ⟨levels,order,types,.mk rh rp⟩ (types.length + 1) i).isNone) hlt (by simp only [g];rfl) hno;rw [hfn] at hlo;simp only [atN_get hxn] at hlo;refine ⟨_,⟨by omega,dNms_get hx⟩,?_⟩;refine ⟨_,?_,rfl⟩;rw [hlo];exact ax
  ·have g:¬ endI ⟨levels,order,types,.mk rh rp⟩ (types.length + 1) e=none:=fun hn=>by have h3:=oz_neg.2 hn;rw [g] at h3;cases h3
   refine ⟨w3St ⟨levels,order,types,.mk rh rp⟩ (e + 1),(weak_mk ⟨_,rfl⟩ wA rfl rfl rfl (wNB hlt)),types.length - (e + 1),by omega,e + 1,rfl,by omega,fun i hi=>?_,rfl⟩;rcases Nat.lt_succ_iff_lt_or_eq.1 hi with hi | rfl
   ·exact hno i hi
   ·exact Option.isNone_eq_false_iff.2 (Option.isSome_iff_ne_none.2 g)
 ·have hge:e=types.length:=by have:=hL;simp [hN] at this;omega
  rw [hge] at hno;rw [firstN_none hno] at hlo;refine ⟨_,?_,rfl⟩;rw [hlo];exact ax
theorem dEds_get {l:List Ed} {i:Nat} {e:Ed} (h:l[i]? = some e):(dEds l)[i]? = some (dEd e):=by simp [dEds,h]
def ndR (lev:List Wd->Int) (s:Sch) (t:Ty) (k:Nat):Nd:=⟨t.h.kind,t.h.at',t.h.lo,t.h.hi,t.h.most,nmTx t.h.names,edsP lev s t.ps (k + 1)⟩
mutual
theorem ndsT_eq (lev:List Wd->Int) (s:Sch):∀ (t:Ty) (k:Nat),ndsT lev s t k=(flatT t).zipIdx.map fun x=>ndR lev s x.1 (k + x.2)
 | .mk h ps,k=>by
  have ih:=ndsP_eq lev s ps (k + 1);rw [ndsT,flatT];split
  ·rfl
  ·rw [ih,List.zipIdx_cons,List.map_cons];rw [List.zipIdx_succ,List.map_map];refine congr (congrArg List.cons rfl) (List.map_congr_left fun x _=>?_);simp only [Function.comp];congr 1;omega
theorem ndsP_eq (lev:List Wd->Int) (s:Sch):∀ (ps:Pts) (k:Nat),ndsP lev s ps k=(flatP ps).zipIdx.map fun x=>ndR lev s x.1 (k + x.2)
 | .nil,k=>rfl
 | .cons p u r,k=>by
  rw [ndsP,flatP,List.zipIdx_append,List.map_append]
  cases hb:p.bare with
  | true=>
   simp only [if_true,List.zipIdx_nil,List.map_nil,List.nil_append,List.length_nil,Nat.add_zero];exact ndsP_eq lev s r k
  | false=>
   simp only [Bool.false_eq_true,if_false];rw [ndsT_eq lev s u k,ndsP_eq lev s r (k + u.nn),flatT_len];refine congrArg _ ?_;rw [List.zipIdx_eq_map_add (l:=flatP r) (i:=0 + u.nn)];rw [List.map_map];refine List.map_congr_left fun x _=>?_;simp only [Function.comp];congr 1;omega
end
theorem knP_mem {X:Lx} {L:List ByteArray}:∀ {ps:Pts},(knP X L ps).1=0->∀ {p:Ph} {u:Ty},(p,u)∈ps.toList->p.bare=false->(knT X L u).1=0
 | .nil,_,p,u,h,_=>by cases h
 | .cons q v r,hk,p,u,h,hb=>by
  rcases List.mem_cons.1 h with h | h
  ·cases h;exact (knP_ok hk).1 hb
  ·exact knP_mem (knP_ok hk).2 h hb
theorem wide_a {w:Int} (h:decide (w=0)=true):wideF w=3:=by unfold wideF;rw [if_pos (of_decide_eq_true h)]
theorem wide_b {w:Int} (h:decide (w=0)=false):wideF w=w:=by unfold wideF;rw [if_neg (of_decide_eq_false h)]
theorem dEds_sn {L:List Ed} {lev:List Wd->Int} {p:Ph} {to w z:Int} (hw:wideF p.wide=w) (ht:to=z):dEds L ++ [[.v (.string p.name.s),.v (.bool p.bare),.v (.int .i64 p.name.a),.v (.int .i64 z),.v (.int .i64 (lev p.label)),.v (.int .i64 w),.v (.int .i64 p.ck),.v (.int .i64 p.cn),.v (.int .i64 (lev p.cl)),.v (.int .i64 p.ca)]]=dEds (L ++ [mkEd lev p to]):=by
 subst hw ht;simp [dEds,dEd,mkEd]
abbrev nd1St (S:Sch) (f:Nat->Nat->Bool) (t:Ty) (me:Nat) (q e:Nat):St:=
 ⟨[(1,⟨[],.sl 1 (dMat (matB S.levels.length f)) none⟩),(3,⟨[],.v (.int .i64 me)⟩),(4,⟨[],.loc 0 0⟩),(6,⟨[],.loc 1 0⟩),(8,⟨[],.loc 2 0⟩),(9,⟨[],.loc 3 0⟩),(10,⟨[],.v (.int .i64 e)⟩)],
  [dSch S,dTy t,[.v (.int .i64 0),.v (.int .i64 0),.v (.int .i64 0),.v (.int .i64 0),.v (.int .i64 0),.v (.slice none 0 0),.v (.slice none 0 0)],
  [.v (.int .i64 t.h.kind),.v (.int .i64 t.h.at'),.v (.int .i64 t.h.lo),.v (.int .i64 t.h.hi),.v (.int .i64 t.h.most),.sl 1 (dBs (nmTx (t.h.names.take e))) (some 0),.v (.slice none 0 0)]],[⟨q,9,1,none⟩]⟩
abbrev nd2St (S:Sch) (f:Nat->Nat->Bool) (t:Ty) (q1 q2:Nat) (L:List Ed) (nx e:Nat):St:=
 ⟨[(1,⟨[],.sl 1 (dMat (matB S.levels.length f)) none⟩),(4,⟨[],.loc 0 0⟩),(6,⟨[],.loc 1 0⟩),(8,⟨[],.loc 2 0⟩),(9,⟨[],.loc 3 0⟩),(11,⟨[],.v (.int .i64 nx)⟩),(12,⟨[],.v (.int .i64 e)⟩)],
  [dSch S,dTy t,[.v (.int .i64 0),.v (.int .i64 0),.v (.int .i64 0),.v (.int .i64 0),.v (.int .i64 0),.v (.slice none 0 0),.v (.slice none 0 0)],
  [.v (.int .i64 t.h.kind),.v (.int .i64 t.h.at'),.v (.int .i64 t.h.lo),.v (.int .i64 t.h.hi),.v (.int .i64 t.h.most),.sl 1 (dBs (nmTx t.h.names)) (some 0),.sl 10 (dEds L) (some 1)]],[⟨q1,9,1,none⟩,⟨q2,170,10,none⟩]⟩
set_option maxHeartbeats 2000000 in
theorem noder_spec (S:Sch) (hS:S.wt<=1099511627776) (hl:(latF S.levels S.order).1=0) (h64:S.types.length<=64) (hr:∀ x∈S.types,refB S x.2=true) (hlo:∀ i,i < S.types.length->∃ k,endI S (S.types.length + 1) i=some k)
  (t:Ty) (ht:t.wt<=1099511627776) (hk:(knS S t).1=0) (me:Nat) (hme:me<=1099511627776) :
  EvP Tryz.prog 89 [.agg (dSch S),.sl 1 (dMat (matB S.levels.length (leqN S.levels.length (numL (nmTx S.levels) S.order)))) none,.agg (dTy t),.v (.int .i64 me)] (.agg (dNd (ndR (levS S) S t me))):=by
 obtain ⟨hL,h32⟩:=latOK_of hl;have hpos:=hL.pos;unfold Sch.wt at hS;have hlev:=fun l (h:wdsWt l<=1099511627776)=>of12_spec S.levels (leqN S.levels.length (numL (nmTx S.levels) S.order)) hpos h32 (by omega) l h;have hls:∀ l,levS S l=labN (leqN S.levels.length (numL (nmTx S.levels) S.order)) (nmTx S.levels) l:=fun _=>rfl;have hsta:=fun s i k=>start_spec S h64 (by omega) hr s i k;have htl:=tL_len S;generalize leqN S.levels.length (numL (nmTx S.levels) S.order)=f at hlev hls ⊢;obtain ⟨h,ps⟩:=t;have hkp:=(knT_ok hk).2;simp only [Ty.wt,Hd.wt] at ht;have hpl:=ps.wt_len;have hc:=ps.cnt_wt;have hc2:=ps.nn_cnt;have hwl:=wdsWt_len h.names;generalize hlv:levS S=lev at hls ⊢;obtain ⟨levels,order,types,⟨rh,rp⟩⟩:=S;simp only at hS h64 hr hlo hlev hls hsta htl hkp;refine ev_go (P:=Tryz.prog) tt tt_ok 5000 131 [.cell 8 157] Tryz.func89 rfl Tryz.ntmps89 rfl (nL rfl) (fun E9 w9 hn9 hm9=>?_);refine loop_i (fun j st=>∃ e:Nat,st=nd1St ⟨levels,order,types,.mk rh rp⟩ f (.mk h ps) me e e/\e<=h.names.length/\j=h.names.length - e) h.names.length (nd1St ⟨levels,order,types,.mk rh rp⟩ f (.mk h ps) me 0 0) (weak_bt 4 ⟨0,9,1,none⟩ rfl rfl rfl (by repeat' (first | exact rfl | exact we_rfl rfl | exact we_tok (Nat.le_refl _) rfl | exact we_tok (Nat.le_refl _) rfl | refine ⟨_,_,rfl,?_,?_⟩)) rfl rfl wTB) ⟨0,rfl,by omega,by omega⟩ ?_;rintro j st ⟨e,rfl,he,rfl⟩;refine br (fun hL=>?_) (fun hL=>?_)
 ·have hlt:e < h.names.length:=by have:=hL;simp [dWds_len] at this;exact this
  obtain ⟨w,hw⟩:∃ w,h.names[e]? = some w:=⟨_,gE hlt⟩;have hsn:=nmTx_snoc hw;have hml:(dBs (nmTx (h.names.take e))).length=e:=by simp [dBs,nmTx];omega
  refine drawG_s mo (by decide +kernel) ?_;refine ⟨_,⟨by omega,dWds_get hw⟩,?_⟩;refine ⟨hml,⟨by simp only [Ty.h];rw [hml];simp [maxLen];omega,by simp only [Ty.h];rw [hml];simp;omega⟩,?_⟩;exact ⟨nd1St ⟨levels,order,types,.mk rh rp⟩ f (.mk h ps) me (e + 1) (e + 1),(weak_b 4 rfl (wSA hlt hsn) rfl rfl rfl (wSB hlt hsn)),h.names.length - (e + 1),by omega,e + 1,rfl,by omega,rfl⟩
 have hge:e=h.names.length:=by have:=hL;simp [dWds_len] at this;omega
 have hme1:IntKind.i64.wrap ((me:Int) + 1)=((me + 1:Nat):Int):=by rw [wrap64 (by omega) (by omega)];omega
 have hnt:dBs (nmTx (h.names.take e))=dBs (nmTx h.names):=by rw [hge,List.take_length]
 refine loop_i (fun j st=>∃ (e q nx:Nat) (L:List Ed),st=nd2St ⟨levels,order,types,.mk rh rp⟩ f (.mk h ps) h.names.length q L nx e/\q=e/\L.length=e/\e<=ps.len/\nx + (ps.drop e).nn=me + 1 + ps.nn/\edsP lev ⟨levels,order,types,.mk rh rp⟩ ps (me + 1)=L ++ edsP lev ⟨levels,order,types,.mk rh rp⟩ (ps.drop e) nx/\j=ps.len - e) ps.len
  (nd2St ⟨levels,order,types,.mk rh rp⟩ f (.mk h ps) e 0 [] (me + 1) 0) (weak_bt 4 ⟨0,170,10,none⟩ rfl rfl rfl (by repeat' (first | exact rfl | exact we_rfl rfl | exact we_int hme1 | exact we_sl hnt rfl | exact we_tok (Nat.le_refl _) rfl | exact we_tok (Nat.le_refl _) rfl | refine ⟨_,_,rfl,?_,?_⟩)) rfl rfl (by repeat' (first | exact trivial | exact we_rfl rfl | exact we_int hme1 | exact we_sl hnt rfl | exact we_tok (Nat.le_refl _) rfl | refine ⟨⟨_,rfl,?_⟩,?_⟩))) ⟨0,0,me + 1,[],by rw [hge],rfl,rfl,by omega,rfl,rfl,by omega⟩ ?_
 clear he hL hge hnt e;rintro j st ⟨e,q,nx,L,rfl,hq,hLl,he,hnx,heq,rfl⟩;refine br (fun hL=>?_) (fun hL=>?_)
 ·have hlt:e < ps.len:=by simpa [dPts_len] using hL
  obtain ⟨p,u,hx⟩:=Pts.get_lt hlt;have hwt:=Pts.wt_mem (mG hx);have hw1:p.name.wt + wdsWt p.label + wdsWt p.cl<=p.wt:=by simp only [Ph.wt];omega
  rw [Pts.drop_cons hx,edsP] at heq;rw [Pts.drop_cons hx,Pts.nn] at hnx;have hl1:=hlev p.label (by omega);have hl2:=hlev p.cl (by omega);unfold labD at hl1 hl2;rw [<- hls] at hl1 hl2;obtain ⟨uh,us⟩:=u;refine ⟨_,⟨by omega,dPts_get hx⟩,?_⟩;refine br (fun hw=>?_) (fun hw=>?_)
  all_goals
   refine call_p en198 (hl1) ax rfl ?_;refine call_p en198 (hl2) ax rfl ?_;have hml:(dEds L).length=q:=by rw [dEds_len,hLl,hq]
   refine br (fun hB=>?_) (fun hB=>?_)
   ·have hB:p.bare=true:=hB;have hto:toF ⟨levels,order,types,.mk rh rp⟩ p (.mk uh us) nx = -1:=by simp [toF,hB]
    rw [hB] at heq hnx;refine ⟨hml,⟨by rw [hml];simp [maxLen];omega,by rw [hml];simp;omega⟩,?_⟩;exact ⟨nd2St ⟨levels,order,types,.mk rh rp⟩ f (.mk h ps) h.names.length (q + 1) (L ++ [mkEd lev p (toF ⟨levels,order,types,.mk rh rp⟩ p (.mk uh us) nx)]) nx (e + 1),(weak_b 4 rfl (by repeat' (first | exact rfl | exact we_rfl rfl | exact we_int (nxt hlt (by omega)) | exact we_sl (dEds_sn (wide_a hw) hto) rfl | exact we_sl (dEds_sn (wide_b hw) hto) rfl | refine ⟨_,_,rfl,?_,?_⟩)) rfl rfl rfl (by repeat' (first | exact trivial | exact we_rfl rfl | exact we_int (nxt hlt (by omega)) | exact we_sl (dEds_sn (wide_a hw) hto) rfl | exact we_sl (dEds_sn (wide_b hw) hto) rfl | refine ⟨⟨_,rfl,?_⟩,?_⟩))),ps.len - (e + 1),by omega,e + 1,q + 1,nx,_,rfl,by omega,by simp [hLl],by omega,by rw [<- hnx];simp,by rw [heq];simp,rfl⟩
   ·have hB:p.bare=false:=hB;have hkt:=knP_mem hkp (mG hx) hB;refine br (fun h9=>?_) (fun h9=>?_)
    ·have h9:uh.kind=9:=by simpa using h9
     obtain ⟨i,hi⟩:=Option.ne_none_iff_exists'.1 ((knT_ok hkt).1 h9);obtain ⟨k,hk⟩:=hlo i (by have:=(ixOf_some hi).1;omega);have hto:toF ⟨levels,order,types,.mk rh rp⟩ p (.mk uh us) nx=(firstA ⟨levels,order,types,.mk rh rp⟩ k:Int):=by simp [toF,hB,idxF,Ty.h,h9,nmF,hi,namedN,hk]
     refine call_p en90 (hsta uh.name.s i k hi hk) ax rfl ?_;refine ⟨hml,⟨by rw [hml];simp [maxLen];omega,by rw [hml];simp;omega⟩,?_⟩;exact ⟨nd2St ⟨levels,order,types,.mk rh rp⟩ f (.mk h ps) h.names.length (q + 1) (L ++ [mkEd lev p (toF ⟨levels,order,types,.mk rh rp⟩ p (.mk uh us) nx)]) nx (e + 1),(weak_b 4 rfl (by repeat' (first | exact rfl | exact we_rfl rfl | exact we_int (nxt hlt (by omega)) | exact we_sl (dEds_sn (wide_a hw) hto) rfl | exact we_sl (dEds_sn (wide_b hw) hto) rfl | refine ⟨_,_,rfl,?_,?_⟩)) rfl rfl rfl (by repeat' (first | exact trivial | exact we_rfl rfl | exact we_int (nxt hlt (by omega)) | exact we_sl (dEds_sn (wide_a hw) hto) rfl | exact we_sl (dEds_sn (wide_b hw) hto) rfl | refine ⟨⟨_,rfl,?_⟩,?_⟩))),ps.len - (e + 1),by omega,e + 1,q + 1,nx,_,rfl,by omega,by simp [hLl],by omega,by rw [<- hnx];simp [hB,Ty.nn,h9],by rw [heq];simp [hB,Ty.nn,h9],rfl⟩
    ·have h9:¬ uh.kind=9:=by simpa using h9
     have hto:toF ⟨levels,order,types,.mk rh rp⟩ p (.mk uh us) nx=(nx:Int):=by simp [toF,hB,idxF,Ty.h,h9]
     have hnn:=(Ty.mk uh us).nn_cnt;have hct:=(Ty.mk uh us).cnt_wt
     have hw4:IntKind.i64.wrap ((nx:Int) + (dTys (flatT (.mk uh us))).length)=((nx + (Ty.mk uh us).nn:Nat):Int):=by
      rw [dTys_len,flatT_len,wrap64 (by omega) (by omega)];omega
     refine call_p en88 (flat_spec _ (.mk uh us) (Nat.le_refl _) (by omega)) ax rfl ?_;refine ⟨hml,⟨by rw [hml];simp [maxLen];omega,by rw [hml];simp;omega⟩,?_⟩;exact ⟨nd2St ⟨levels,order,types,.mk rh rp⟩ f (.mk h ps) h.names.length (q + 1) (L ++ [mkEd lev p (toF ⟨levels,order,types,.mk rh rp⟩ p (.mk uh us) nx)]) (nx + (Ty.mk uh us).nn) (e + 1),(weak_b 4 rfl (by repeat' (first | exact rfl | exact we_rfl rfl | exact we_int (nxt hlt (by omega)) | exact we_int hw4 | exact we_sl (dEds_sn (wide_a hw) hto) rfl | exact we_sl (dEds_sn (wide_b hw) hto) rfl | refine ⟨_,_,rfl,?_,?_⟩)) rfl rfl rfl (by repeat' (first | exact trivial | exact we_rfl rfl | exact we_int (nxt hlt (by omega)) | exact we_int hw4 | exact we_sl (dEds_sn (wide_a hw) hto) rfl | exact we_sl (dEds_sn (wide_b hw) hto) rfl | refine ⟨⟨_,rfl,?_⟩,?_⟩))),ps.len - (e + 1),by omega,e + 1,q + 1,(nx + (Ty.mk uh us).nn),_,rfl,by omega,by simp [hLl],by omega,by rw [<- hnx];simp [hB];omega,by rw [heq];simp [hB],rfl⟩
 have hge:e=ps.len:=by simp [dPts_len] at hL;omega
 rw [hge,Pts.drop_len,edsP,List.append_nil] at heq;unfold ndR;simp only [Ty.h,Ty.ps];rw [heq];exact ⟨_,ax,rfl⟩
def ndsA (lev:List Wd->Int) (s:Sch):List Ty->Nat->List Nd
 | [],_=>[]
 | t :: r,k=>ndsT lev s t k ++ ndsA lev s r (k + t.nn)
def nnS (l:List Ty):Nat:=(l.map Ty.nn).sum
theorem nnS_cons (t:Ty) (l:List Ty):nnS (t :: l)=t.nn + nnS l:=by simp [nnS]
theorem nnS_app (a b:List Ty):nnS (a ++ b)=nnS a + nnS b:=by simp [nnS]
theorem ndsA_len (lev:List Wd->Int) (s:Sch):∀ (l:List Ty) (k:Nat),(ndsA lev s l k).length=nnS l
 | [],_=>rfl
 | t :: r,k=>by simp only [ndsA,List.length_append,ndsT_len,ndsA_len lev s r,nnS_cons]
theorem ndsA_app (lev:List Wd->Int) (s:Sch):∀ (a b:List Ty) (k:Nat),ndsA lev s (a ++ b) k=ndsA lev s a k ++ ndsA lev s b (k + nnS a)
 | [],b,k=>by simp [ndsA,nnS]
 | t :: r,b,k=>by rw [List.cons_append,ndsA,ndsA,ndsA_app lev s r b,List.append_assoc,nnS_cons,Nat.add_assoc]
theorem ndsA_all (lev:List Wd->Int) (s:Sch):∀ (l:List (Wd × Ty)) (k:Nat),ndsAll lev s l k=ndsA lev s (l.map fun x=>x.2) k
 | [],_=>rfl
 | x :: r,k=>by rw [ndsAll,List.map_cons,ndsA,ndsA_all lev s r]
theorem resN_len (s:Sch):(resN s).length=nnS (tysOf s):=by rw [resN,ndsA_all,ndsA_len];all_goals rfl
theorem resNds_eq (s:Sch):resNds s=ndsA (levS s) s (allT s) 0:=by
 unfold resNds allT;rw [ndsA_app,resN_len,resN,ndsA_all,ndsA,ndsA,List.append_nil,Nat.zero_add];rfl
theorem ndsA_take {lev:List Wd->Int} {s:Sch} {l:List Ty} {e:Nat} {t:Ty} (h:l[e]? = some t):ndsA lev s (l.take (e + 1)) 0=ndsA lev s (l.take e) 0 ++ ndsT lev s t (ndsA lev s (l.take e) 0).length:=by
 rw [List.take_add_one,h,ndsA_app,ndsA_len,Nat.zero_add];simp [ndsA]
theorem nnS_take (l:List Ty):∀ e,nnS (l.take e)<=nnS l:=by
 intro e;have:=nnS_app (l.take e) (l.drop e);rw [List.take_append_drop] at this;omega
theorem nnS_wt (s:Sch):nnS (allT s)<=s.wt:=by
 have key:∀ l:List (Wd × Ty),nnS (l.map fun x=>x.2)<=nmsWt l:=by
  intro l
  induction l with
  | nil=>exact Nat.le_refl _
  | cons x r ih=>
   have:=x.2.nn_cnt;have:=x.2.cnt_wt;simp only [List.map_cons,nnS_cons,nmsWt];omega
 have h1:=key s.types;have h2:=s.root.nn_cnt;have h3:=s.root.cnt_wt;unfold allT;rw [nnS_app,nnS_cons];unfold Sch.wt tysOf;simp only [nnS,List.map_nil,List.sum_nil] at h1 ⊢;omega
mutual
theorem flatT_kn {X:Lx} {L:List ByteArray}:∀ (t:Ty),(knT X L t).1=0->∀ u∈flatT t,(knT X L u).1=0
 | .mk h ps,hk,u,hu=>by
  rw [flatT] at hu;split at hu
  ·cases hu
  ·rcases List.mem_cons.1 hu with rfl | hu
   ·exact hk
   ·exact flatP_kn ps (knT_ok hk).2 u hu
theorem flatP_kn {X:Lx} {L:List ByteArray}:∀ (ps:Pts),(knP X L ps).1=0->∀ u∈flatP ps,(knT X L u).1=0
 | .nil,_,u,hu=>by cases hu
 | .cons p v r,hk,u,hu=>by
  rw [flatP] at hu;rcases List.mem_append.1 hu with hu | hu
  ·cases hb:p.bare with
   | true=>rw [hb] at hu;cases hu
   | false=>rw [hb] at hu;exact flatT_kn v ((knP_ok hk).1 hb) u hu
  ·exact flatP_kn r (knP_ok hk).2 u hu
end
mutual
theorem flatT_wt:∀ (t:Ty),∀ u∈flatT t,u.wt<=t.wt
 | .mk h ps,u,hu=>by
  rw [flatT] at hu;split at hu
  ·cases hu
  ·rcases List.mem_cons.1 hu with rfl | hu
   ·exact Nat.le_refl _
   ·have:=flatP_wt ps u hu;simp only [Ty.wt];omega
theorem flatP_wt:∀ (ps:Pts),∀ u∈flatP ps,u.wt<=ps.wt
 | .nil,u,hu=>by cases hu
 | .cons p v r,u,hu=>by
  rw [flatP] at hu;simp only [Pts.wt];rcases List.mem_append.1 hu with hu | hu
  ·split at hu
   ·cases hu
   ·have:=flatT_wt v u hu;omega
  ·have:=flatP_wt r u hu;omega
end
theorem ndsT_get {lev:List Wd->Int} {s:Sch} {t u:Ty} {n k:Nat} (h:(flatT t)[k]? = some u):(ndsT lev s t n)[k]? = some (ndR lev s u (n + k)):=by
 rw [ndsT_eq,List.getElem?_map,List.getElem?_zipIdx,h];simp
structure FineS (S:Sch):Prop where
 lat:(latF S.levels S.order).1=0
 l64:S.types.length<=64
 kn:∀ t∈allT S,(knS S t).1=0
 ends:∀ i,i < S.types.length->∃ k,endI S (S.types.length + 1) i=some k
 wr:∀ t∈allT S,(wrong t 1 0).1.1=0
theorem eaA_ok:∀ {l:List Ty} {m:Int},(eaA l m).1.1=0->∀ t∈l,(wrong t 1 0).1.1=0
 | [],_,_,t,ht=>by cases ht
 | u :: r,m,h,t,ht=>by
  rw [eaA] at h;split at h
  ·rename_i h1;exact (h1 h).elim
  ·rename_i h1;rcases List.mem_cons.1 ht with rfl | ht
   ·exact (rightF_ok (by simpa using h1)).2.2.1
   ·exact eaA_ok h t ht
theorem fineS_of {S:Sch} (h:(resF S).1=0):FineS S:=by
 rw [resF_eq] at h;split at h
 ·rename_i h1;exact (h1 h).elim
 rename_i h1;split at h
 ·rename_i h2;exact (h2 h).elim
 rename_i h2;split at h
 ·rename_i h3;exact (h3 h).elim
 rename_i h3;split at h
 ·rename_i h4;exact (h4 h).elim
 rename_i h4
 exact {
  lat:=by simpa using h1
  l64:=by
   have h2:(namedF S).1=0:=by simpa using h2
   unfold namedF at h2;split at h2
   ·cases h2
   ·omega
  kn:=eaK_ok (by simpa using h4)
  ends:=loopF_ok h
  wr:=eaA_ok (by simpa using h3) }
theorem FineS.refs {S:Sch} (h:FineS S):∀ x∈S.types,refB S x.2=true:=fun x hx=>knT_ref (h.kn x.2 (List.mem_append_left _ (List.mem_map_of_mem hx)))
abbrev wC (S:Sch) (f:Nat->Nat->Bool) (N:DV) (z:Int):List DV:=[.sl 2 (dWds S.levels) none,.sl 1 (dMat (matB S.levels.length f)) none,N,.v (.int .i64 z)]
abbrev bd1St (S:Sch) (T:List Ty) (f:Nat->Nat->Bool) (L:List Nd) (z:Int) (e q:Nat):St:=
 ⟨[(1,⟨[],.loc 0 0⟩),(2,⟨[],.loc 1 0⟩),(3,⟨[],.loc 2 0⟩),(4,⟨[],.sl 9 (dTys T) none⟩),(5,⟨[],.v (.int .i64 e)⟩)],[dSch S,[.v (.slice none 0 0),.v (.slice none 0 0),.v (.slice none 0 0),.v (.int .i64 0)],wC S f (.sl 7 (dNds L) (some 0)) z],[⟨q,157,7,none⟩]⟩
abbrev bd2St (S:Sch) (T:List Ty) (f:Nat->Nat->Bool) (L:List Nd) (z:Int) (e:Nat) (F:List Ty) (k q:Nat):St:=
 ⟨[(1,⟨[],.loc 0 0⟩),(2,⟨[],.loc 1 0⟩),(3,⟨[],.loc 2 0⟩),(4,⟨[],.sl 9 (dTys T) none⟩),(5,⟨[],.v (.int .i64 e)⟩),(6,⟨[],.sl 9 (dTys F) none⟩),(7,⟨[],.v (.int .i64 k)⟩)],[dSch S,[.v (.slice none 0 0),.v (.slice none 0 0),.v (.slice none 0 0),.v (.int .i64 0)],wC S f (.sl 7 (dNds L) (some 0)) z],[⟨q,157,7,none⟩]⟩
theorem build18_spec (S:Sch) (hS:S.wt<=1099511627776) (hR:(resF S).1=0) :
  EvP Tryz.prog 23 [.agg (dSch S)] (.agg (wC S (leqN S.levels.length (numL (nmTx S.levels) S.order)) (.sl 7 (dNds (resNds S)) none) (resRoot S))):=by
 have hFS:=fineS_of hR;obtain ⟨_,h32⟩:=latOK_of hFS.lat;have hAl:=allT_wt hS;have hnw:=nnS_wt S;have hN0:=(latF_parts hFS.lat).2.2.1;have hrr:=hFS.refs;have hnode:=fun t ht hk me hme=>noder_spec S hS hFS.lat hFS.l64 hrr hFS.ends t ht hk me hme;have hwS:=hS;unfold Sch.wt at hS;have hleq:=leq_spec S.levels S.order h32 (by omega) (by omega) hN0;have hall:=all_spec S (by have:=hFS.l64;omega);have hlen:(allT S).length=S.types.length + 1:=by simp [allT,tysOf]
 have h64:=hFS.l64;have hsta:=fun s i k=>start_spec S h64 (by omega) hrr s i k;have hkn:=hFS.kn;have hends:=hFS.ends;have htl:=tL_len S
 have hroot:(allT S)[S.types.length]? = some S.root:=by
  unfold allT;rw [List.getElem?_append_right (by simp [tysOf])];simp [tysOf]
 have hrn:=resN_len S
 have htk:(allT S).take S.types.length=tysOf S:=by
  unfold allT;rw [List.take_append_of_le_length (by simp [tysOf])];exact List.take_of_length_le (by simp [tysOf])
 rw [resNds_eq];unfold resRoot;generalize levS S=lev at hnode ⊢;generalize leqN S.levels.length (numL (nmTx S.levels) S.order)=f at hnode hleq ⊢;obtain ⟨levels,order,types,⟨rh,rp⟩⟩:=S;simp only at hS hleq hlen h64 hends htl hroot htk;generalize hT:allT ⟨levels,order,types,.mk rh rp⟩=T at hAl hnw hall hlen hkn hroot htk ⊢;refine ev_go (P:=Tryz.prog) tt tt_ok 5000 67 [.cell 2 52] Tryz.func23 rfl Tryz.ntmps23 rfl (nL rfl) (fun E9 w9 hn9 hm9=>?_);apply drawG_two (fun _=>false) 6 8 [0,1,2,3,4,5,6,7,8,9] [0,1,2,3,4,5,8,6,7,9] 2 2 mo (by decide +kernel)
 ·refine callD_p en86 (hleq) ax rfl ?_;refine (?_:@Eq St _ _);exact rfl
 ·refine callD_p en86 (hleq) ax rfl ?_;refine (⟨rfl,rfl,?_⟩:_/\_/\_)
  repeat' (first | exact trivial | refine ⟨rfl,?_⟩)
 ·rfl
 refine call_p en87 (hall) ax rfl ?_
 have hLN:∀ e,(ndsA lev ⟨levels,order,types,.mk rh rp⟩ (T.take e) 0).length<=1099511627776:=fun e=>by
  rw [ndsA_len];have:=nnS_take T e;omega
 refine loop_i (fun j st=>∃ (e q:Nat) (z:Int),st=bd1St ⟨levels,order,types,.mk rh rp⟩ T f (ndsA lev ⟨levels,order,types,.mk rh rp⟩ (T.take e) 0) z e q/\q=(ndsA lev ⟨levels,order,types,.mk rh rp⟩ (T.take e) 0).length/\e<=types.length + 1/\(e=types.length + 1->z=(nnS (T.take types.length):Nat))/\j=types.length + 1 - e) (types.length + 1)
  (bd1St ⟨levels,order,types,.mk rh rp⟩ T f [] 0 0 0) (weak_bt 3 ⟨0,157,7,none⟩ rfl rfl rfl (by repeat' (first | exact rfl | exact we_rfl rfl | exact we_tok (Nat.le_refl _) rfl | exact we_tok (Nat.le_refl _) rfl | refine ⟨_,_,rfl,?_,?_⟩)) rfl rfl wTB) ⟨0,0,0,rfl,rfl,by omega,fun h=>by omega,by omega⟩ ?_
 rintro j st ⟨e,q,z,rfl,hq,he,hz,rfl⟩;refine br (fun hL=>?_) (fun hL=>?_)
 ·have hlt:e < types.length + 1:=by have:=hL;simp [dTys_len,hlen] at this;omega
  obtain ⟨t,ht⟩:∃ t,T[e]? = some t:=⟨_,gE (by omega)⟩;have htw:=hAl t (mG ht);have htk':=hkn t (mG ht);have hfl:=flat_spec _ t (Nat.le_refl _) htw;have hfk:=flatT_kn t htk';have hfw:=flatT_wt t;have hta:=ndsA_take (lev:=lev) (s:=⟨levels,order,types,.mk rh rp⟩) ht;have hfln:=flatT_len t;have hnl:=ndsT_len lev ⟨levels,order,types,.mk rh rp⟩ t (ndsA lev ⟨levels,order,types,.mk rh rp⟩ (T.take e) 0).length;have hget:=fun k u (h:(flatT t)[k]? = some u)=>ndsT_get (lev:=lev) (s:=⟨levels,order,types,.mk rh rp⟩) (n:=(ndsA lev ⟨levels,order,types,.mk rh rp⟩ (T.take e) 0).length) h;have hLe:=hLN e;have hLe1:=hLN (e + 1);have hLs:=ndsA_len lev ⟨levels,order,types,.mk rh rp⟩ (T.take e) 0;rw [hta,List.length_append] at hLe1;obtain ⟨u,us⟩:=t;generalize ndsA lev ⟨levels,order,types,.mk rh rp⟩ (T.take e) 0=L at hq hta hnl hget hLe hLe1 hLs ⊢;generalize ndsT lev ⟨levels,order,types,.mk rh rp⟩ (.mk u us) L.length=M at hta hnl hget hLe1;generalize flatT (.mk u us)=F at hfl hfk hfw hfln hget;have hdl:((dNds L).length:Int)=(L.length:Int):=by rw [dNds_len]
  refine ⟨_,⟨by omega,dTys_get ht⟩,?_⟩;refine call_p en88 (hfl) ax rfl ?_
  refine loop_i (fun j st=>∃ (k q:Nat),st=bd2St ⟨levels,order,types,.mk rh rp⟩ T f (L ++ M.take k) (L.length:Int) e F k q/\q=(L ++ M.take k).length/\k<=F.length/\j=F.length - k) F.length
   (bd2St ⟨levels,order,types,.mk rh rp⟩ T f (L ++ []) (L.length:Int) e F 0 q) (weak_b 3 rfl (by repeat' (first | exact rfl | exact we_rfl rfl | exact we_int hdl | exact we_sl (by rw [List.append_nil]) rfl | refine ⟨_,_,rfl,?_,?_⟩)) rfl rfl rfl (by repeat' (first | exact trivial | exact we_rfl rfl | exact we_int hdl | exact we_sl (by rw [List.append_nil]) rfl | refine ⟨⟨_,rfl,?_⟩,?_⟩))) ⟨0,q,rfl,by simp [hq],by omega,by omega⟩ ?_
  rintro j st ⟨k,q',rfl,hq',hk,rfl⟩;refine br (fun hL2=>?_) (fun hL2=>?_)
  ·have hkt:k < F.length:=by have:=hL2;simp [dTys_len] at this;exact this
   obtain ⟨v,hv⟩:∃ v,F[k]? = some v:=⟨_,gE hkt⟩;have hvm:=mG hv;have hvw:=hfw v hvm;have hml:(dNds (L ++ M.take k)).length=q':=by rw [dNds_len,hq']
   have hq2:q'=L.length + k:=by rw [hq',List.length_append,List.length_take];omega
   have hnd:=hnode v (by omega) (hfk v hvm) (dNds (L ++ M.take k)).length (by omega)
   have hsn:dNds (L ++ M.take k) ++ [dNd (ndR lev ⟨levels,order,types,.mk rh rp⟩ v (dNds (L ++ M.take k)).length)]=dNds (L ++ M.take (k + 1)):=by
    rw [List.take_add_one,hget k v hv,hml,hq2];simp [dNds]
   obtain ⟨vh,vp⟩:=v;refine drawG_s mo (by decide +kernel) ?_;refine ⟨_,⟨by omega,dTys_get hv⟩,?_⟩;refine callD_p en89 (hnd) ax rfl ?_;refine ⟨hml,⟨by rw [hml];simp [maxLen];omega,by rw [hml];simp;omega⟩,?_⟩;exact ⟨bd2St ⟨levels,order,types,.mk rh rp⟩ T f (L ++ M.take (k + 1)) (L.length:Int) e F (k + 1) (q' + 1),(weak_b 3 rfl (wSA hkt hsn) rfl rfl rfl (wSB hkt hsn)),F.length - (k + 1),by omega,k + 1,q' + 1,rfl,by rw [hq2];simp;omega,by omega,rfl⟩
  ·have hge:k=F.length:=by have:=hL2;simp [dTys_len] at this;omega
   have hM:M.take k=M:=List.take_of_length_le (by omega);rw [hM] at hq';refine ⟨bd1St ⟨levels,order,types,.mk rh rp⟩ T f (ndsA lev ⟨levels,order,types,.mk rh rp⟩ (T.take (e + 1)) 0) (L.length:Int) (e + 1) q',(weak_b 3 rfl (by repeat' (first | exact rfl | exact we_rfl rfl | exact we_int (nxt hlt (by omega)) | exact we_sl (by rw [hta,hM]) rfl | refine ⟨_,_,rfl,?_,?_⟩)) rfl rfl rfl (by repeat' (first | exact trivial | exact we_rfl rfl | exact we_int (nxt hlt (by omega)) | exact we_sl (by rw [hta,hM]) rfl | refine ⟨⟨_,rfl,?_⟩,?_⟩))),types.length + 1 - (e + 1),by omega,e + 1,q',_,rfl,by rw [hta,hq'],by omega,fun he1=>?_,rfl⟩;rw [hLs,show e=types.length by omega]
 ·have hge:e=types.length + 1:=by have:=hL;simp [dTys_len,hlen] at this;omega
  have hTa:T.take e=T:=List.take_of_length_le (by omega);rw [hTa];have hz:=hz hge;rw [htk,<- hrn] at hz;have hkr:=hkn (.mk rh rp) (mG hroot);refine br (fun h9=>?_) (fun h9=>?_)
  ·have h9:rh.kind=9:=by simpa using h9
   obtain ⟨i,hi⟩:=Option.ne_none_iff_exists'.1 ((knT_ok hkr).1 h9);obtain ⟨k,hk⟩:=hends i (by have:=(ixOf_some hi).1;omega);have hto:idxF ⟨levels,order,types,.mk rh rp⟩ (.mk rh rp) (resN ⟨levels,order,types,.mk rh rp⟩).length=(firstA ⟨levels,order,types,.mk rh rp⟩ k:Int):=by simp [idxF,Ty.h,h9,nmF,hi,namedN,hk]
   refine call_p en90 (hsta rh.name.s i k hi hk) ax rfl ?_;rw [hto];exact ⟨_,ax,rfl⟩
  ·have h9:¬ rh.kind=9:=by simpa using h9
   have hto:idxF ⟨levels,order,types,.mk rh rp⟩ (.mk rh rp) (resN ⟨levels,order,types,.mk rh rp⟩).length=z:=by simp [idxF,Ty.h,h9,hz]
   rw [hto];exact ⟨_,ax,rfl⟩
def WrT (t:Ty):Prop:=∃ d m,(wrong t d m).1.1=0
def PartF (kind:Int) (p:Ph) (t:Ty):Prop:=(p.bare=true/\kind=8/\sameTy t zeroTy=true/\plainP p barePh=true)∨(p.bare=false/\(partWd p).1=0/\WrT t)
structure TyF (h:Hd) (ps:Pts):Prop where
 k1:1<=h.kind
 k9:h.kind<=9
 own:ownF h ps=true
 int:h.kind=2->h.lo<=h.hi
 text:h.kind=3->0<=h.most/\h.most<=4096
 enum:h.kind=4->enumWd h=(0,0)
 one:h.kind=5∨h.kind=6->∃ p t,ps = .cons p t .nil/\p.name.s=emptyB/\plainP p zeroPh=true/\0<=h.most/\h.most<=1024/\WrT t
 many:h.kind=7∨h.kind=8->ps.len<=64/\(h.kind=8->ps.len≠0)/\∀ i p t,ps.toList[i]? = some (p,t)->listedF (pNames ps) i p.name=0/\PartF h.kind p t
theorem own_of {h:Hd} {ps:Pts} (ho:¬ ownB (.mk h ps)=false):ownF h ps=true:=by
 rw [ownF_eq];cases hb:sameTy (.mk h ps) (mask (.mk h ps))
 ·exact absurd hb ho
 ·rfl
theorem wrongPts_parts {kind:Int} {all:List Wd}:∀ {ps:Pts} {i:Nat} {d m:Int},(wrongPts kind all i ps d m).1.1=0->(kind=7∨kind=8)->∀ j p t,ps.toList[j]? = some (p,t)->listedF all (i + j) p.name=0/\PartF kind p t
 | .nil,i,d,m,_,_,j,p,t,hx=>by simp [Pts.toList] at hx
 | .cons q u r,i,d,m,he,hk,j,p,t,hx=>by
  simp only [wrongPts] at he;by_cases c0:listedF all i q.name≠0
  ·rw [if_pos c0] at he;exact absurd he c0
  rw [if_neg c0] at he;have c0:listedF all i q.name=0:=by simpa using c0
  have step:∀ d' m',(wrongPts kind all (i + 1) r d' m').1.1=0->PartF kind q u->listedF all (i + j) p.name=0/\PartF kind p t:=by
   intro d' m' h hq
   cases j with
   | zero=>
    simp only [Pts.toList,List.getElem?_cons_zero,oI,Prod.mk.injEq] at hx;obtain ⟨rfl,rfl⟩:=hx;exact ⟨c0,hq⟩
   | succ j=>
    simp only [Pts.toList,List.getElem?_cons_succ] at hx;have:=wrongPts_parts h hk j p t hx
    rwa [show i + 1 + j=i + (j + 1) by omega] at this
  by_cases c1:q.bare=true
  ·rw [if_pos c1] at he;by_cases c2:kind=7∨sameTy u zeroTy=false∨plainP q barePh=false
   ·rw [if_pos c2] at he;simp at he
   rw [if_neg c2] at he;refine step d m he (.inl ⟨c1,?_,?_,?_⟩)
   ·rcases hk with hk | hk
    ·exact absurd (.inl hk) c2
    ·exact hk
   ·cases hb:sameTy u zeroTy
    ·exact absurd (.inr (.inl hb)) c2
    ·rfl
   ·cases hb:plainP q barePh
    ·exact absurd (.inr (.inr hb)) c2
    ·rfl
  ·rw [if_neg c1] at he;by_cases c2:(partWd q).1≠0
   ·rw [if_pos c2] at he;exact absurd he c2
   rw [if_neg c2] at he;by_cases c3:(wrong u (d + 1) m).1.1≠0
   ·rw [if_pos c3] at he;exact absurd he c3
   rw [if_neg c3] at he;exact step d _ he (.inr ⟨by simpa using c1,by simpa using c2,d + 1,m,by simpa using c3⟩)
theorem tyF_of:∀ {t:Ty},WrT t->TyF t.h t.ps
 | .mk h ps,⟨d,m,he⟩=>by
  simp only [Ty.h,Ty.ps];simp only [wrong] at he;by_cases c0:24 < d
  ·rw [if_pos c0] at he;simp at he
  rw [if_neg c0] at he;by_cases c1:512 < m + 1
  ·rw [if_pos c1] at he;simp at he
  rw [if_neg c1] at he;by_cases c2:h.kind < 1∨9 < h.kind
  ·rw [if_pos c2] at he;simp at he
  rw [if_neg c2] at he;by_cases c3:ownB (.mk h ps)=false
  ·rw [if_pos c3] at he;simp at he
  rw [if_neg c3] at he;by_cases c4:(h.kind=2/\h.hi < h.lo)∨(h.kind=3/\(h.most < 0∨4096 < h.most))
  ·rw [if_pos c4] at he;simp at he
  rw [if_neg c4] at he;by_cases c5:h.kind=9/\nameOK h.name.s=false
  ·rw [if_pos c5] at he;simp at he
  rw [if_neg c5] at he;refine { k1:=by omega,k9:=by omega,own:=own_of c3,int:=fun h2=>by omega,text:=fun h3=>by omega,enum:=fun h4=>?_,one:=fun h5=>?_,many:=fun h7=>?_ }
  ·rw [if_pos h4] at he;exact enumWd_ok h he
  ·rw [if_neg (by omega),if_pos h5] at he
   match ps,he with
   | .nil,he=>simp [wrongOne] at he
   | .cons p t (.cons _ _ _),he=>simp [wrongOne] at he
   | .cons p t .nil,he=>
    simp only [wrongOne] at he;by_cases e0:p.name.s≠emptyB∨plainP p zeroPh=false
    ·rw [if_pos e0] at he;simp at he
    rw [if_neg e0] at he;by_cases e1:h.most < 0∨1024 < h.most
    ·rw [if_pos e1] at he;simp at he
    rw [if_neg e1] at he;refine ⟨p,t,rfl,Classical.byContradiction fun hn=>e0 (.inl hn),?_,by omega,by omega,d + 1,_,he⟩;cases hb:plainP p zeroPh
    ·exact absurd (.inr hb) e0
    ·rfl
  ·rw [if_neg (by omega),if_neg (by omega),if_pos h7] at he;by_cases e0:h.kind=8/\ps.len=0
   ·rw [if_pos e0] at he;simp at he
   rw [if_neg e0] at he;by_cases e1:64 < ps.len
   ·rw [if_pos e1] at he;simp at he
   rw [if_neg e1] at he;refine ⟨by omega,fun h8=>fun hl=>e0 ⟨h8,hl⟩,fun i p t hx=>?_⟩;have:=wrongPts_parts he h7 i p t hx
   rwa [Nat.zero_add] at this
theorem TyF.sub {h:Hd} {ps:Pts} (hF:TyF h ps) {p:Ph} {u:Ty} (hm:(p,u)∈ps.toList) (hb:p.bare=false):WrT u:=by
 obtain ⟨i,hi⟩:=List.mem_iff_getElem?.1 hm
 have hlen:0 < ps.len:=by
  cases ps with
  | nil=>simp [Pts.toList] at hm
  | cons _ _ _=>simp [Pts.len]
 have hk:5<=h.kind/\h.kind<=8:=by
  have h1:=hF.own;unfold ownF at h1;simp only [Bool.and_eq_true,Bool.or_eq_true,decide_eq_true_eq] at h1;have:=h1.1.1.2;omega
 by_cases h5:h.kind=5∨h.kind=6
 ·obtain ⟨q,t,rfl,_,_,_,_,hw⟩:=hF.one h5;simp only [Pts.toList,List.mem_singleton,Prod.mk.injEq] at hm;rw [hm.2];exact hw
 ·rcases ((hF.many (by omega)).2.2 i p u hi).2 with h1 | h1
  ·rw [h1.1] at hb;cases hb
  ·exact h1.2.2
mutual
theorem flatT_wr:∀ (t:Ty),WrT t->∀ u∈flatT t,WrT u
 | .mk h ps,hw,u,hu=>by
  rw [flatT] at hu;split at hu
  ·cases hu
  ·rcases List.mem_cons.1 hu with rfl | hu
   ·exact hw
   ·exact flatP_wr ps (fun p v hm hb=>(tyF_of hw).sub hm hb) u hu
theorem flatP_wr:∀ (ps:Pts),(∀ p v,(p,v)∈ps.toList->p.bare=false->WrT v)->∀ u∈flatP ps,WrT u
 | .nil,_,u,hu=>by cases hu
 | .cons p v r,hw,u,hu=>by
  rw [flatP] at hu;rcases List.mem_append.1 hu with hu | hu
  ·cases hb:p.bare with
   | true=>rw [hb] at hu;cases hu
   | false=>rw [hb] at hu;exact flatT_wr v (hw p v (by simp [Pts.toList]) hb) u hu
  ·exact flatP_wr r (fun q w hm=>hw q w (by simp [Pts.toList,hm])) u hu
end
mutual
theorem flatT_k9:∀ (t:Ty),∀ u∈flatT t,u.h.kind≠9
 | .mk h ps,u,hu=>by
  rw [flatT] at hu;split at hu
  ·cases hu
  ·rename_i h9;rcases List.mem_cons.1 hu with rfl | hu
   ·exact h9
   ·exact flatP_k9 ps u hu
theorem flatP_k9:∀ (ps:Pts),∀ u∈flatP ps,u.h.kind≠9
 | .nil,u,hu=>by cases hu
 | .cons p v r,u,hu=>by
  rw [flatP] at hu;rcases List.mem_append.1 hu with hu | hu
  ·split at hu
   ·cases hu
   ·exact flatT_k9 v u hu
  ·exact flatP_k9 r u hu
end
mutual
theorem flatT_pos:∀ (t:Ty) (j:Nat) (u:Ty),(flatT t)[j]? = some u->j + u.nn<=t.nn
 | .mk h ps,j,u,hu=>by
  rw [flatT] at hu;by_cases h9:h.kind=9
  ·rw [if_pos h9] at hu;simp at hu
  rw [if_neg h9] at hu
  cases j with
  | zero=>
   simp only [List.getElem?_cons_zero,oI] at hu;subst hu;omega
  | succ j=>
   simp only [List.getElem?_cons_succ] at hu;have:=flatP_pos ps j u hu;rw [Ty.nn,if_neg h9];omega
theorem flatP_pos:∀ (ps:Pts) (j:Nat) (u:Ty),(flatP ps)[j]? = some u->j + u.nn<=ps.nn
 | .nil,j,u,hu=>by simp [flatP] at hu
 | .cons p v r,j,u,hu=>by
  rw [flatP] at hu;rw [Pts.nn]
  cases hb:p.bare with
  | true=>
   rw [hb] at hu;have:=flatP_pos r j u (by simpa using hu);simp only [if_true];omega
  | false=>
   rw [hb] at hu;simp only [Bool.false_eq_true,if_false] at hu ⊢;by_cases hj:j < (flatT v).length
   ·rw [List.getElem?_append_left hj] at hu;have:=flatT_pos v j u hu;omega
   ·rw [List.getElem?_append_right (by omega)] at hu;have:=flatP_pos r _ u hu;have h2:=flatT_len v;omega
end
theorem edsP_mem {lev:List Wd->Int} {s:Sch}:∀ {ps:Pts} {k:Nat} {e:Ed},e∈edsP lev s ps k->∃ p u k',(p,u)∈ps.toList/\e=mkEd lev p (toF s p u k')/\(p.bare=false->k' + u.nn<=k + ps.nn)
 | .nil,k,e,he=>by simp [edsP] at he
 | .cons p u r,k,e,he=>by
  rw [edsP] at he;rcases List.mem_cons.1 he with rfl | he
  ·refine ⟨p,u,k,by simp [Pts.toList],rfl,fun hb=>?_⟩;rw [Pts.nn,hb];simp
  ·obtain ⟨q,v,k',h1,h2,h3⟩:=edsP_mem he;refine ⟨q,v,k',by simp [Pts.toList,h1],h2,fun hb=>?_⟩;have:=h3 hb;rw [Pts.nn];omega
theorem edsP_names {lev:List Wd->Int} {s:Sch}:∀ {ps:Pts} {k:Nat},(edsP lev s ps k).map Ed.name=nmTx (pNames ps)
 | .nil,k=>rfl
 | .cons p u r,k=>by
  rw [edsP,List.map_cons,edsP_names (ps:=r)];rfl
theorem botN_some {f:Nat->Nat->Bool} {n:Nat} (hL:LatOK f n):∀ e,e<=n->∃ b,b < n/\∀ x,x < e->f b x=true
 | 0,_=>⟨0,hL.pos,fun x hx=>by omega⟩
 | e + 1,he=>by
  obtain ⟨b,hb,hle⟩:=botN_some hL e (by omega);obtain ⟨k,hk⟩:=hL.mt b e hb (by omega);obtain ⟨g1,g2,g3,g4⟩:=meetN_spec hk;refine ⟨k,g1,fun x hx=>?_⟩;rcases Nat.lt_succ_iff_lt_or_eq.1 hx with hx | rfl
  ·exact hL.tr k b x g1 hb (by omega) g2 (hle x hx)
  ·exact g3
theorem leastN_some {f:Nat->Nat->Bool} {n:Nat} (hL:LatOK f n) (l:List Nat) (hl:∀ x∈l,x < n):∃ c,leastN f n l=some c:=by
 have key:∀ e,e<=l.length->∃ c,leastN f n (l.take e)=some c:=by
  intro e
  induction e with
  | zero=>
   intro _;obtain ⟨b,hb,hle⟩:=botN_some hL n (Nat.le_refl _);exact ⟨b,leastN_nil hL hb hle⟩
  | succ e ih=>
   intro he;obtain ⟨c,hc⟩:=ih (by omega);obtain ⟨x,hx⟩:∃ x,l[e]? = some x:=⟨_,gE (by omega)⟩;have hxl:=hl x (mG hx);obtain ⟨k,hk⟩:=hL.jn c x (leastN_lt hc) hxl;rw [List.take_add_one,hx];exact ⟨k,leastN_snoc hL (fun y hy=>hl y (List.mem_of_mem_take hy)) hxl hc hk⟩
 have:=key l.length (Nat.le_refl _)
 rwa [List.take_length] at this
theorem labW_some {L:List ByteArray}:∀ {l:List Wd},(labW L l).1=0->∀ w∈l,∃ i,ixOf L w.s=some i
 | [],_,w,hw=>by cases hw
 | x :: r,h,w,hw=>by
  rw [labW] at h;split at h
  ·cases h
  ·rename_i h1;rcases List.mem_cons.1 hw with rfl | hw
   ·exact Option.ne_none_iff_exists'.1 h1
   ·exact labW_some h w hw
theorem labN_some {f:Nat->Nat->Bool} {L:List ByteArray} (hL:LatOK f L.length) {l:List Wd} (h:(labW L l).1=0):∃ c:Nat,labN f L l=c/\c < L.length:=by
 obtain ⟨c,hc⟩:=leastN_some hL (labI L l) (fun x hx=>by
  unfold labI at hx;obtain ⟨w,hw,rfl⟩:=List.mem_map.1 hx;obtain ⟨i,hi⟩:=labW_some h w hw;rw [hi]
  exact (ixOf_some hi).1)
 refine ⟨c,?_,leastN_lt hc⟩;unfold labN;rw [if_pos h,hc];rfl
structure EdOK (L N:Nat) (e:Ed):Prop where
 to0:e.bare=true->e.to = -1
 to1:e.bare=false->∃ k:Nat,e.to=k/\k < N
 lab:∃ k:Nat,e.label=k/\k < L
 seen:∃ k:Nat,e.seen=k/\k < L
 wide:1<=e.wide/\e.wide<=64
 ck:0<=e.ck/\e.ck<=3
 cn:(e.ck=0->e.cn=0)/\(e.ck=1->1<=e.cn)/\(e.ck=2->0<=e.cn/\e.cn<=4096)/\(e.ck=3->e.cn=0)
structure NdOK (L N:Nat) (n:Nd):Prop where
 k1:1<=n.kind
 k8:n.kind<=8
 lohi:n.kind=2->n.lo<=n.hi
 lo0:n.kind≠2->n.lo=0/\n.hi=0
 most3:n.kind=3->0<=n.most/\n.most<=4096
 most5:n.kind=5->0<=n.most/\n.most<=1024
 most0:n.kind≠3->n.kind≠5->n.most=0
 names:n.kind=4->n.names ≠ []/\n.names.length<=64/\n.names.Nodup/\∀ s∈n.names,nameOK s=true
 names0:n.kind≠4->n.names=[]
 leaf:n.kind < 5->n.edges=[]
 one:n.kind=5∨n.kind=6->∃ e,n.edges=[e]/\e.bare=false/\e.name=emptyB
 many:n.kind=7∨n.kind=8->n.edges.length<=64/\(n.kind=8->n.edges ≠ [])/\(n.edges.map Ed.name).Nodup/\∀ e∈n.edges,nameOK e.name=true
 bare:∀ e∈n.edges,e.bare=true->n.kind=8
 edge:∀ e∈n.edges,EdOK L N e
theorem listed_all {l:List Wd} (h:∀ j x,l[j]? = some x->listedF l j x=0):(nmTx l).Nodup/\∀ x∈l,nameOK x.s=true:=by
 have key:∀ e,e<=l.length->(nmTx (l.take e)).Nodup:=by
  intro e
  induction e with
  | zero=>intro _;simp [nmTx]
  | succ e ih=>
   intro he;obtain ⟨x,hx⟩:∃ x,l[e]? = some x:=⟨_,gE (by omega)⟩;exact listed_nodup hx (ih (by omega)) (h e x hx)
 refine ⟨by have:=key l.length (Nat.le_refl _);rwa [List.take_length] at this,fun x hx=>?_⟩;obtain ⟨j,hj⟩:=List.mem_iff_getElem?.1 hx;have:=h j x hj;unfold listedF at this;cases hb:nameOK x.s
 ·rw [hb] at this;simp at this
 ·rfl
theorem enumL_all {all:List Wd}:∀ {l:List Wd} {i:Nat},(enumL all i l).1=0->∀ j x,l[j]? = some x->listedF all (i + j) x=0
 | [],i,_,j,x,hx=>by simp at hx
 | y :: r,i,h,j,x,hx=>by
  rw [enumL] at h;split at h
  ·rename_i h1;exact (h1 h).elim
  ·rename_i h1
   cases j with
   | zero=>
    simp only [List.getElem?_cons_zero,oI] at hx;subst hx;simpa using h1
   | succ j=>
    simp only [List.getElem?_cons_succ] at hx;have:=enumL_all h j x hx
    rwa [show i + 1 + j=i + (j + 1) by omega] at this
theorem enumWd_facts {h:Hd} (he:enumWd h=(0,0)):h.names ≠ []/\h.names.length<=64/\(nmTx h.names).Nodup/\∀ x∈h.names,nameOK x.s=true:=by
 unfold enumWd at he;split at he
 ·cases he
 ·rename_i h1;split at he
  ·cases he
  ·rename_i h2;refine ⟨h1,by omega,?_⟩
   exact listed_all fun j x hx=>by
    have:=enumL_all (all:=h.names) (i:=0) (by rw [he]) j x hx
    rwa [Nat.zero_add] at this
theorem knP_lab {X:Lx} {L:List ByteArray}:∀ {ps:Pts},(knP X L ps).1=0->∀ {p:Ph} {u:Ty},(p,u)∈ps.toList->(X.bad p.label).1=0/\(X.bad p.cl).1=0
 | .nil,_,p,u,h=>by cases h
 | .cons q v r,hk,p,u,h=>by
  have hr:=(knP_ok hk).2;rw [knP] at hk;split at hk
  ·rename_i h1;exact (h1 hk).elim
  rename_i h1;split at hk
  ·rename_i h2;exact (h2 hk).elim
  rename_i h2;rcases List.mem_cons.1 h with h | h
  ·cases h;exact ⟨by simpa using h1,by simpa using h2⟩
  ·exact knP_lab hr h
theorem wide_zero {p q:Ph} (h:plainP p q=true):p.bare=q.bare/\p.wide=q.wide/\p.ck=q.ck/\p.cn=q.cn:=by
 unfold plainP at h;simp only [Bool.and_eq_true,beq_iff_eq,decide_eq_true_eq] at h;exact ⟨h.1.1.1.1.1,h.1.1.1.1.2,h.1.1.2,h.1.2⟩
theorem wideF_ok {w:Int} (h:0<=w/\w<=64):1<=wideF w/\wideF w<=64:=by
 unfold wideF;split<;>omega
theorem coarseF_ok {p:Ph} (h:(coarseF p).1=0):(0<=p.ck/\p.ck<=3)/\(p.ck=0->p.cn=0)/\(p.ck=1->1<=p.cn)/\(p.ck=2->0<=p.cn/\p.cn<=4096)/\(p.ck=3->p.cn=0):=by
 unfold coarseF at h;by_cases c0:p.ck=0
 ·rw [if_pos c0] at h;by_cases c1:p.cn=0/\p.cl=[]
  ·exact ⟨by omega,fun _=>c1.1,by omega,by omega,by omega⟩
  ·rw [if_neg c1] at h;simp at h
 rw [if_neg c0] at h;by_cases c1:p.ck < 0∨3 < p.ck
 ·rw [if_pos c1] at h;simp at h
 rw [if_neg c1] at h;by_cases c2:(p.ck=1/\p.cn < 1)∨(p.ck=2/\(p.cn < 0∨4096 < p.cn))∨(p.ck=3/\p.cn≠0)
 ·rw [if_pos c2] at h;simp at h
 exact ⟨by omega,by omega,by omega,by omega,by omega⟩
theorem partWd_ok {p:Ph} (h:(partWd p).1=0):(0<=p.wide/\p.wide<=64)/\(coarseF p).1=0:=by
 unfold partWd at h;by_cases c0:p.wide < 0∨64 < p.wide
 ·rw [if_pos c0] at h;simp at h
 rw [if_neg c0] at h;by_cases c1:(labelF p.label).1≠0
 ·rw [if_pos c1] at h;exact absurd h c1
 rw [if_neg c1] at h;exact ⟨by omega,h⟩
theorem nn_pos {t:Ty} (h:t.h.kind≠9):1<=t.nn:=by
 obtain ⟨h',ps⟩:=t;have h:¬ h'.kind=9:=h;rw [Ty.nn,if_neg h];omega
theorem firstA_lt {S:Sch} {k:Nat} {x:Wd × Ty} (hx:S.types[k]? = some x):firstA S k + x.2.nn<=nnS (allT S):=by
 have h1:=firstA_succ hx;rw [<- h1]
 have h2:firstA S (k + 1)=nnS ((tysOf S).take (k + 1)):=by
  unfold firstA nnS tysOf;rw [<- List.map_take,List.map_map];rfl
 have h3:=nnS_take (tysOf S) (k + 1);have h4:nnS (allT S)=nnS (tysOf S) + nnS [S.root]:=nnS_app _ _;omega
theorem ndsA_get {lev:List Wd->Int} {s:Sch} {n:Nd}:∀ {l:List Ty} {k i:Nat},(ndsA lev s l k)[i]? = some n->∃ t∈l,∃ u∈flatT t,n=ndR lev s u (k + i)/\i + u.nn<=nnS l
 | [],k,i,h=>by simp [ndsA] at h
 | t :: r,k,i,h=>by
  rw [ndsA] at h;rw [nnS_cons];have hl:=ndsT_len lev s t k;by_cases hi:i < t.nn
  ·rw [List.getElem?_append_left (by omega),ndsT_eq,List.getElem?_map,List.getElem?_zipIdx] at h
   cases hu:(flatT t)[i]? with
   | none=>rw [hu] at h;simp at h
   | some u=>
    rw [hu] at h;simp only [Option.map_some,oI] at h;have:=flatT_pos t i u hu;exact ⟨t,List.mem_cons_self,u,mG hu,by rw [<- h];simp,by omega⟩
  ·rw [List.getElem?_append_right (by omega),hl] at h;obtain ⟨t',h1,u,h2,h3,h4⟩:=ndsA_get h;refine ⟨t',List.mem_cons_of_mem _ h1,u,h2,?_,by omega⟩;rw [h3];congr 1;omega
theorem resNds_len (S:Sch):(resNds S).length=nnS (allT S):=by rw [resNds_eq,ndsA_len]
theorem resNds_ok {S:Sch} (hF:FineS S) {i:Nat} {n:Nd} (h:(resNds S)[i]? = some n):NdOK S.levels.length (resNds S).length n:=by
 rw [resNds_len];rw [resNds_eq] at h;obtain ⟨t,ht,u,hu,rfl,hpos⟩:=ndsA_get h;rw [Nat.zero_add];have hwr:=flatT_wr t ⟨_,_,hF.wr t ht⟩ u hu;have hk:=flatT_kn t (hF.kn t ht) u hu;have hk9:=flatT_k9 t u hu;have hT:=tyF_of hwr;obtain ⟨hLat,_⟩:=latOK_of hF.lat;have hnl:=nmTx_len S.levels;have hends:=hF.ends;obtain ⟨uh,us⟩:=u;simp only [Ty.h,Ty.ps] at hT hk9;have hkp:=(knT_ok hk).2;have hown:=hT.own;unfold ownF at hown;simp only [Bool.and_eq_true,Bool.or_eq_true,decide_eq_true_eq] at hown;obtain ⟨⟨⟨⟨o1,o2⟩,o3⟩,o4⟩,o5⟩:=hown;have k1:=hT.k1;have k9:=hT.k9
 have hlv:∀ l:List Wd,(labW (nmTx S.levels) l).1=0->∃ k:Nat,levS S l=k/\k < S.levels.length:=by
  intro l hl;have:=labN_some (f:=leqN S.levels.length (numL (nmTx S.levels) S.order)) (L:=nmTx S.levels) (by rw [hnl];exact hLat) hl
  rwa [hnl] at this
 have hto:∀ (p:Ph) (v:Ty) (k':Nat),(p,v)∈us.toList->(p.bare=false->k' + v.nn<=i + 1 + us.nn)->(p.bare=true->toF S p v k' = -1)/\(p.bare=false->∃ k:Nat,toF S p v k'=k/\k < nnS (allT S)):=by
  intro p v k' hm hle;refine ⟨fun hb=>by simp [toF,hb],fun hb=>?_⟩;have hkv:=knP_mem hkp hm hb;obtain ⟨vh,vs⟩:=v;by_cases h9:vh.kind=9
  ·obtain ⟨j,hj⟩:=Option.ne_none_iff_exists'.1 ((knT_ok hkv).1 h9);have hjl:=(ixOf_some hj).1;rw [tL_len] at hjl;obtain ⟨k,hk⟩:=hends j hjl;have hkl:=endI_lt hk;obtain ⟨x,hx⟩:∃ x,S.types[k]? = some x:=⟨_,gE hkl.1⟩;have h1:=firstA_lt hx;have h2:=nn_pos (hkl.2 x hx);refine ⟨firstA S k,?_,by omega⟩;simp [toF,hb,idxF,Ty.h,h9,nmF,hj,namedN,hk]
  ·have h1:=nn_pos (t:=.mk vh vs) h9;have h2:=hle hb;have h3:(Ty.mk uh us).nn=1 + us.nn:=by rw [Ty.nn,if_neg hk9]
   refine ⟨k',by simp [toF,hb,idxF,Ty.h,h9],by omega⟩
 have hpart:∀ p v,(p,v)∈us.toList->(0<=p.wide/\p.wide<=64)/\(0<=p.ck/\p.ck<=3)/\((p.ck=0->p.cn=0)/\(p.ck=1->1<=p.cn)/\(p.ck=2->0<=p.cn/\p.cn<=4096)/\(p.ck=3->p.cn=0))/\(p.bare=true->uh.kind=8):=by
  intro p v hm;obtain ⟨j,hj⟩:=List.mem_iff_getElem?.1 hm
  have hlen:us.len≠0:=by
   cases us with
   | nil=>simp [Pts.toList] at hm
   | cons _ _ _=>simp [Pts.len]
  by_cases h5:uh.kind=5∨uh.kind=6
  ·obtain ⟨q,t',rfl,_,hpl,_,_,_⟩:=hT.one h5;simp only [Pts.toList,List.mem_singleton,Prod.mk.injEq] at hm;obtain ⟨rfl,rfl⟩:=hm;obtain ⟨w1,w2,w3,w4⟩:=wide_zero hpl;have z1:zeroPh.wide=0:=rfl;have z2:zeroPh.ck=0:=rfl;have z3:zeroPh.cn=0:=rfl;have z4:zeroPh.bare=false:=rfl;rw [z1] at w2;rw [z2] at w3;rw [z3] at w4;rw [z4] at w1;refine ⟨by omega,by omega,⟨by omega,by omega,by omega,by omega⟩,fun hb=>?_⟩;rw [w1] at hb;cases hb
  ·obtain ⟨_,hP⟩:=(hT.many (by omega)).2.2 j p v hj;rcases hP with ⟨hb,h8,_,hpl⟩ | ⟨hb,hp,_⟩
   ·obtain ⟨w1,w2,w3,w4⟩:=wide_zero hpl;have z1:barePh.wide=0:=rfl;have z2:barePh.ck=0:=rfl;have z3:barePh.cn=0:=rfl;rw [z1] at w2;rw [z2] at w3;rw [z3] at w4;exact ⟨by omega,by omega,⟨by omega,by omega,by omega,by omega⟩,fun _=>h8⟩
   ·obtain ⟨w1,w2⟩:=partWd_ok hp;obtain ⟨w3,w4⟩:=coarseF_ok w2;exact ⟨w1,w3,w4,fun h=>by rw [hb] at h;cases h⟩
 have hlen0:us.len=0->us = .nil:=fun h=>by
  cases us with
  | nil=>rfl
  | cons _ _ _=>simp [Pts.len] at h
 refine {
  k1:=k1
  k8:=by show uh.kind<=8;omega
  lohi:=hT.int
  lo0:=fun h2=>?_
  most3:=hT.text
  most5:=fun h5=>?_
  most0:=fun h3 h5=>?_
  names:=fun h4=>?_
  names0:=fun h4=>?_
  leaf:=fun h5=>?_
  one:=fun h5=>?_
  many:=fun h7=>?_
  bare:=fun e he hb=>?_
  edge:=fun e he=>?_ }
 ·show uh.lo=0/\uh.hi=0;exact o1.resolve_left h2
 ·obtain ⟨q,t',rfl,_,_,hm0,hm1,_⟩:=hT.one (.inl h5);exact ⟨hm0,hm1⟩
 ·show uh.most=0;exact o2.resolve_left (fun h=>h.elim h3 h5)
 ·obtain ⟨e1,e2,e3,e4⟩:=enumWd_facts (hT.enum h4);show nmTx uh.names ≠ []/\(nmTx uh.names).length<=64/\(nmTx uh.names).Nodup/\∀ s∈nmTx uh.names,nameOK s=true;refine ⟨fun h=>e1 (by simpa [nmTx] using h),by rw [nmTx_len];exact e2,e3,fun s hs=>?_⟩;unfold nmTx at hs;obtain ⟨w,hw,rfl⟩:=List.mem_map.1 hs;exact e4 w hw
 ·show nmTx uh.names=[];have:=o4.resolve_right h4;have:uh.names=[]:=List.eq_nil_of_length_eq_zero this;rw [this];all_goals rfl
 ·show edsP (levS S) S us (i + 1)=[];have hk5:uh.kind < 5:=h5;rw [hlen0 (o3.resolve_right (by omega))];rfl
 ·show ∃ e,edsP (levS S) S us (i + 1)=[e]/\_;obtain ⟨q,t',rfl,hn,hpl,_,_,_⟩:=hT.one h5;refine ⟨mkEd (levS S) q (toF S q t' (i + 1)),rfl,?_,hn⟩;exact (wide_zero hpl).1
 ·show (edsP (levS S) S us (i + 1)).length<=64/\(_->edsP (levS S) S us (i + 1) ≠ [])/\((edsP (levS S) S us (i + 1)).map Ed.name).Nodup/\∀ e∈edsP (levS S) S us (i + 1),nameOK e.name=true;obtain ⟨m1,m2,m3⟩:=hT.many h7
  have hall:∀ j x,(pNames us)[j]? = some x->listedF (pNames us) j x=0:=by
   intro j x hx
   have hj:j < us.len:=by
    have:=(gS hx).1
    rwa [pNames_len] at this
   obtain ⟨p,t',hp⟩:=Pts.get_lt hj;rw [pNames_get hp] at hx;simp only [oI] at hx;rw [<- hx];exact (m3 j p t' hp).1
  obtain ⟨n1,n2⟩:=listed_all hall;refine ⟨by rw [edsP_len];exact m1,fun h8 hn=>m2 h8 ?_,by rw [edsP_names];exact n1,fun e he=>?_⟩
  ·have:=edsP_len (levS S) S us (i + 1);rw [hn] at this;simpa using this.symm
  ·have:e.name∈nmTx (pNames us):=by rw [<- edsP_names (lev:=levS S) (s:=S) (k:=i + 1)];exact List.mem_map_of_mem he
   unfold nmTx at this;obtain ⟨w,hw,h⟩:=List.mem_map.1 this;rw [<- h];exact n2 w hw
 ·obtain ⟨p,v,k',h1,rfl,_⟩:=edsP_mem he;exact (hpart p v h1).2.2.2 hb
 ·obtain ⟨p,v,k',h1,rfl,h3⟩:=edsP_mem he;obtain ⟨h4,h5⟩:=hto p v k' h1 h3;obtain ⟨h6,h7,h8,_⟩:=hpart p v h1;obtain ⟨h9,h10⟩:=knP_lab hkp h1;exact { to0:=h4,to1:=h5,lab:=hlv _ h9,seen:=hlv _ h10,wide:=wideF_ok h6,ck:=h7,cn:=h8 }
def edN (K:List Nat) (e:Ed):Nat:=K.getD e.to.toNat 0
def leastR (K:List Nat):List Ed->Nat->Nat
 | [],m=>m + 1
 | e :: r,m=>if edN K e=0 then 0 else leastR K r (max m (edN K e))
def leastU (K:List Nat):List Ed->Nat->Nat
 | [],b=>if b=0 then 0 else b + 1
 | e :: r,b=>if e.bare=true then 1 else if 0 < edN K e/\(b=0∨edN K e < b) then leastU K r (edN K e) else leastU K r b
def leastF (n:Nd) (K:List Nat):Nat:=if n.kind=7 then leastR K n.edges 0 else if n.kind=8 then leastU K n.edges 0 else 1
def depN (ND:List Nd):Nat->List Nat
 | 0=>List.replicate ND.length 0
 | d + 1=>ND.map fun n=>leastF n (depN ND d)
theorem depN_len (ND:List Nd):∀ d,(depN ND d).length=ND.length
 | 0=>by simp [depN]
 | d + 1=>by simp [depN]
theorem depN_get (ND:List Nd) (d j:Nat):(depN ND (d + 1)).getD j 0=match ND[j]? with | none=>0 | some n=>leastF n (depN ND d):=by
 simp only [depN,List.getD_eq_getElem?_getD,List.getElem?_map];cases ND[j]?<;>rfl
def RndR (d:Nat) (A B:List Nat):Prop:=∀ j:Nat,(0 < A.getD j 0->B.getD j 0=A.getD j 0/\A.getD j 0<=d)/\(A.getD j 0=0->B.getD j 0=0∨B.getD j 0=d + 1)
theorem rndR_le {d:Nat} {A B:List Nat} (h:RndR d A B) (j:Nat):B.getD j 0<=d + 1:=by
 obtain ⟨h1,h2⟩:=h j;rcases Nat.eq_zero_or_pos (A.getD j 0) with h3 | h3
 ·rcases h2 h3 with h4 | h4<;>omega
 ·have:=h1 h3;omega
theorem leastR_zero {K:List Nat}:∀ {es:List Ed} {m:Nat},leastR K es m=0↔∃ e∈es,edN K e=0
 | [],m=>by simp [leastR]
 | e :: r,m=>by
  rw [leastR];by_cases h:edN K e=0
  ·rw [if_pos h];exact ⟨fun _=>⟨e,by simp,h⟩,fun _=>rfl⟩
  ·rw [if_neg h,leastR_zero];constructor
   ·rintro ⟨x,hx,h2⟩;exact ⟨x,by simp [hx],h2⟩
   ·rintro ⟨x,hx,h2⟩;rcases List.mem_cons.1 hx with rfl | hx
    ·exact (h h2).elim
    ·exact ⟨x,hx,h2⟩
theorem leastR_same {d:Nat} {A B:List Nat} (hR:RndR d A B):∀ {es:List Ed} {m:Nat},0 < leastR A es m->leastR B es m=leastR A es m
 | [],m,_=>rfl
 | e :: r,m,h=>by
  rw [leastR] at h ⊢;rw [leastR];by_cases h0:edN A e=0
  ·rw [if_pos h0] at h;omega
  rw [if_neg h0] at h ⊢;have h1:edN B e=edN A e:=((hR e.to.toNat).1 (by unfold edN at h0;omega)).1;rw [h1,if_neg h0];exact leastR_same hR h
theorem leastR_new {d:Nat} {A B:List Nat} (hR:RndR d A B):∀ {es:List Ed} {m:Nat},m<=d + 1->(m=d + 1∨∃ e∈es,edN A e=0)->leastR B es m=0∨leastR B es m=d + 2
 | [],m,_,h=>by
  rcases h with h | ⟨e,he,_⟩
  ·right;rw [leastR,h]
  ·cases he
 | e :: r,m,hm,h=>by
  rw [leastR];by_cases h0:edN B e=0
  ·rw [if_pos h0];exact .inl rfl
  rw [if_neg h0];have hle:edN B e<=d + 1:=rndR_le hR _;refine leastR_new hR (by omega) ?_;rcases h with h | ⟨x,hx,h⟩
  ·left;omega
  ·rcases List.mem_cons.1 hx with rfl | hx
   ·left;have:=(hR x.to.toNat).2 h;unfold edN at h0 hle ⊢;omega
   ·exact .inr ⟨x,hx,h⟩
theorem leastU_rnd {d:Nat} {A B:List Nat} (hR:RndR d A B):∀ {es:List Ed} {a b:Nat},(0 < a->b=a/\a<=d)->(a=0->b=0∨b=d + 1) ->
  (0 < leastU A es a->leastU B es b=leastU A es a)/\(leastU A es a=0->leastU B es b=0∨leastU B es b=d + 2)
 | [],a,b,h1,h2=>by
  rw [leastU,leastU];rcases Nat.eq_zero_or_pos a with h | h
  ·rw [if_pos h];refine ⟨fun h=>by omega,fun _=>?_⟩;rcases h2 h with h3 | h3
   ·left;rw [if_pos h3]
   ·right;rw [if_neg (by omega)];omega
  ·obtain ⟨h3,h4⟩:=h1 h;rw [if_neg (by omega),if_neg (by omega),h3];exact ⟨fun _=>rfl,fun h=>by omega⟩
 | e :: r,a,b,h1,h2=>by
  rw [leastU,leastU];by_cases hb:e.bare=true
  ·rw [if_pos hb,if_pos hb];exact ⟨fun _=>rfl,fun h=>by omega⟩
  rw [if_neg hb,if_neg hb];obtain ⟨g1,g2⟩:=hR e.to.toNat;change (0 < edN A e->edN B e=edN A e/\edN A e<=d) at g1;change (edN A e=0->edN B e=0∨edN B e=d + 1) at g2;by_cases c1:0 < edN A e/\(a=0∨edN A e < a)<;>by_cases c2:0 < edN B e/\(b=0∨edN B e < b)
  ·rw [if_pos c1,if_pos c2];exact leastU_rnd hR (by omega) (by omega)
  ·rw [if_pos c1,if_neg c2];exact leastU_rnd hR (by omega) (by omega)
  ·rw [if_neg c1,if_pos c2];exact leastU_rnd hR (by omega) (by omega)
  ·rw [if_neg c1,if_neg c2];exact leastU_rnd hR (by omega) (by omega)
theorem leastF_rnd {d:Nat} {A B:List Nat} (hR:RndR d A B) (n:Nd):(0 < leastF n A->leastF n B=leastF n A)/\(leastF n A=0->leastF n B=0∨leastF n B=d + 2):=by
 unfold leastF;by_cases h7:n.kind=7
 ·rw [if_pos h7,if_pos h7];exact ⟨leastR_same hR,fun h=>leastR_new hR (by omega) (.inr (leastR_zero.1 h))⟩
 rw [if_neg h7,if_neg h7];by_cases h8:n.kind=8
 ·rw [if_pos h8,if_pos h8];exact leastU_rnd hR (by omega) (by omega)
 rw [if_neg h8,if_neg h8];exact ⟨fun _=>rfl,fun h=>by omega⟩
theorem edN_zero (N:Nat) (e:Ed):edN (List.replicate N 0) e=0:=by
 unfold edN;rw [List.getD_eq_getElem?_getD,List.getElem?_replicate];split<;>rfl
theorem leastU_none (N:Nat):∀ es:List Ed,leastU (List.replicate N 0) es 0=0∨leastU (List.replicate N 0) es 0=1
 | []=>.inl rfl
 | e :: r=>by
  rw [leastU,edN_zero];by_cases hb:e.bare=true
  ·rw [if_pos hb];exact .inr rfl
  ·rw [if_neg hb,if_neg (by omega)];exact leastU_none N r
theorem leastF_none (N:Nat) (n:Nd):leastF n (List.replicate N 0)=0∨leastF n (List.replicate N 0)=1:=by
 unfold leastF;by_cases h7:n.kind=7
 ·rw [if_pos h7]
  cases h:n.edges with
  | nil=>right;rfl
  | cons e r=>left;rw [leastR,edN_zero,if_pos rfl]
 rw [if_neg h7];by_cases h8:n.kind=8
 ·rw [if_pos h8];exact leastU_none N n.edges
 ·rw [if_neg h8];exact .inr rfl
theorem depN_zero (ND:List Nd) (j:Nat):(depN ND 0).getD j 0=0:=by
 rw [depN,List.getD_eq_getElem?_getD,List.getElem?_replicate];split<;>rfl
theorem depN_rnd (ND:List Nd):∀ d,RndR d (depN ND d) (depN ND (d + 1))
 | 0=>fun j=>by
  refine ⟨fun h=>by rw [depN_zero] at h;omega,fun _=>?_⟩;rw [depN_get]
  cases ND[j]? with
  | none=>exact .inl rfl
  | some n=>exact leastF_none _ n
 | d + 1=>fun j=>by
  have ih:=depN_rnd ND d;rw [depN_get ND (d + 1),depN_get ND d]
  cases hn:ND[j]? with
  | none=>exact ⟨fun h=>by simp at h,fun _=>.inl rfl⟩
  | some n=>
   obtain ⟨h1,h2⟩:=leastF_rnd ih n;refine ⟨fun h=>⟨h1 h,?_⟩,h2⟩;have:=rndR_le ih j;rw [depN_get ND d,hn] at this;exact this
theorem depN_le (ND:List Nd):∀ d j,(depN ND d).getD j 0<=d
 | 0,j=>by rw [depN_zero];omega
 | d + 1,j=>rndR_le (depN_rnd ND d) j
def posL (K:List Nat):List Bool:=K.map fun k=>decide (0 < k)
theorem posL_get (K:List Nat) (j:Nat):(posL K).getD j false=decide (0 < K.getD j 0):=by
 unfold posL;simp only [List.getD_eq_getElem?_getD,List.getElem?_map];cases K[j]?<;>simp
theorem posL_len (K:List Nat):(posL K).length=K.length:=by simp [posL]
theorem getD_ext {A B:List Nat} (hl:A.length=B.length) (h:∀ j,A.getD j 0=B.getD j 0):A=B:=by
 refine List.ext_getElem hl fun j h1 h2=>?_;have:=h j;simp only [List.getD_eq_getElem?_getD,gE h1,gE h2,Option.getD_some] at this;exact this
theorem depN_posle (ND:List Nd) (d:Nat):LeB (posL (depN ND d)) (posL (depN ND (d + 1))):=fun j h=>by
 rw [posL_get] at h ⊢;have h:=of_decide_eq_true h;have:=((depN_rnd ND d) j).1 h;exact decide_eq_true (by omega)
theorem depN_same {ND:List Nd} {d:Nat} (h:posL (depN ND d)=posL (depN ND (d + 1))):depN ND (d + 1)=depN ND d:=by
 refine getD_ext (by rw [depN_len,depN_len]) fun j=>?_;obtain ⟨h1,h2⟩:=(depN_rnd ND d) j;rcases Nat.eq_zero_or_pos ((depN ND d).getD j 0) with h3 | h3
 ·have h4:=posL_get (depN ND d) j;rw [h,posL_get,h3] at h4;have:¬ 0 < (depN ND (d + 1)).getD j 0:=by simpa using h4
  omega
 ·exact (h1 h3).1
theorem depN_step (ND:List Nd):∀ d,depN ND (d + 1)=depN ND d∨d<=cntB (posL (depN ND d))
 | 0=>.inr (Nat.zero_le _)
 | d + 1=>by
  rcases depN_step ND d with h | h
  ·left;show (ND.map fun n=>leastF n (depN ND (d + 1)))=ND.map fun n=>leastF n (depN ND d);rw [h]
  ·rcases (leB_eq (by rw [posL_len,posL_len,depN_len,depN_len]) (depN_posle ND d)).1 with h2 | h2
   ·left;have:=depN_same h2;show (ND.map fun n=>leastF n (depN ND (d + 1)))=ND.map fun n=>leastF n (depN ND d);rw [this]
   ·exact .inr (by omega)
theorem depN_fix {ND:List Nd} {d:Nat} (h:depN ND (d + 1)=depN ND d):∀ k,depN ND (d + k)=depN ND d
 | 0=>rfl
 | k + 1=>by
  show (ND.map fun n=>leastF n (depN ND (d + k)))=_;rw [depN_fix h k];exact h
theorem depN_end (ND:List Nd):depN ND (ND.length + 1)=depN ND ND.length:=by
 rcases depN_step ND ND.length with h | h
 ·exact h
 ·rcases (leB_eq (by rw [posL_len,posL_len,depN_len,depN_len]) (depN_posle ND ND.length)).1 with h2 | h2
  ·exact depN_same h2
  ·have:=cntB_le (posL (depN ND (ND.length + 1)));rw [posL_len,depN_len] at this;omega
theorem depN_lt {ND:List Nd} {d:Nat} (h:depN ND (d + 1)≠depN ND d):d < ND.length:=by
 rcases Nat.lt_or_ge d ND.length with h1 | h1
 ·exact h1
 ·obtain ⟨k,rfl⟩:∃ k,d=ND.length + k:=⟨d - ND.length,by omega⟩;exfalso;have h2:=depN_fix (depN_end ND) k;have h3:=depN_fix (depN_end ND) (k + 1);exact h (by rw [show ND.length + k + 1=ND.length + (k + 1) by omega,h3,h2])
theorem depN_all {ND:List Nd} {d:Nat} (h:depN ND (d + 1)=depN ND d):depN ND (d + 1)=depN ND ND.length:=by
 rcases Nat.lt_or_ge d ND.length with h1 | h1
 ·obtain ⟨k,hk⟩:∃ k,ND.length=d + k:=⟨ND.length - d,by omega⟩;rw [hk,depN_fix h k,h]
 ·obtain ⟨k,hk⟩:∃ k,d + 1=ND.length + k:=⟨d + 1 - ND.length,by omega⟩;rw [hk,depN_fix (depN_end ND) k]
def inK (K:List Bool) (e:Ed):Bool:=e.bare || K.getD e.to.toNat false
def hvB (n:Nd) (K:List Bool):Bool:=if n.kind < 7 then true else if n.kind=7 then n.edges.all (inK K) else n.edges.any (inK K)
theorem leastU_pos {K:List Nat}:∀ {es:List Ed} {b:Nat},0 < leastU K es b↔(0 < b∨es.any (inK (posL K))=true)
 | [],b=>by
  rw [leastU];by_cases h:b=0
  ·rw [if_pos h];simp [h]
  ·rw [if_neg h];simp;omega
 | e :: r,b=>by
  have hg:(posL K).getD e.to.toNat false=decide (0 < edN K e):=posL_get K _;rw [leastU,List.any_cons];by_cases hb:e.bare=true
  ·rw [if_pos hb];simp [inK,hb]
  ·rw [if_neg hb]
   have hin:inK (posL K) e=decide (0 < edN K e):=by
    unfold inK;rw [hg];simp [hb]
   rw [hin,Bool.or_eq_true,decide_eq_true_eq];split
   ·rename_i h1;rw [leastU_pos];constructor
    ·exact fun _=>.inr (.inl h1.1)
    ·exact fun _=>.inl h1.1
   ·rename_i h1;rw [leastU_pos];constructor
    ·rintro (h | h)
     ·exact .inl h
     ·exact .inr (.inr h)
    ·rintro (h | h | h)
     ·exact .inl h
     ·by_cases hb0:b=0
      ·exact (h1 ⟨h,.inl hb0⟩).elim
      ·left;omega
     ·exact .inr h
theorem leastF_pos {n:Nd} {K:List Nat} (h8:n.kind<=8) (hb:∀ e∈n.edges,e.bare=true->n.kind=8):(0 < leastF n K)↔hvB n (posL K)=true:=by
 unfold leastF hvB;by_cases h7:n.kind=7
 ·rw [if_pos h7,if_neg (by omega),if_pos h7,List.all_eq_true];have:0 < leastR K n.edges 0↔¬ leastR K n.edges 0=0:=by omega
  rw [this,leastR_zero];constructor
  ·intro h e he
   have h1:e.bare=false:=by
    cases hbe:e.bare
    ·rfl
    ·have:=hb e he hbe;omega
   have h2:¬ edN K e=0:=fun h3=>h ⟨e,he,h3⟩;have hg:(posL K).getD e.to.toNat false=decide (0 < edN K e):=posL_get K _;simp only [inK,h1,hg,Bool.false_or,decide_eq_true_eq];omega
  ·rintro h ⟨e,he,h3⟩
   have h1:e.bare=false:=by
    cases hbe:e.bare
    ·rfl
    ·have:=hb e he hbe;omega
   have hg:(posL K).getD e.to.toNat false=decide (0 < edN K e):=posL_get K _;have:=h e he;simp only [inK,h1,hg,Bool.false_or,decide_eq_true_eq] at this;omega
 rw [if_neg h7];by_cases h8':n.kind=8
 ·rw [if_pos h8',if_neg (by omega),if_neg h7,leastU_pos];simp
 ·rw [if_neg h8',if_pos (by omega)];simp
theorem depN_ref {ND:List Nd} (hN:∀ n∈ND,n.kind<=8/\∀ e∈n.edges,e.bare=true->n.kind=8) (d:Nat) {i:Nat} {n:Nd} (h:ND[i]? = some n) :
  (depN ND (d + 1)).getD i 0=(if hvB n (posL (depN ND d))=true/\(depN ND d).getD i 0=0 then d + 1 else (depN ND d).getD i 0) /\
  (posL (depN ND (d + 1))).getD i false=hvB n (posL (depN ND d)):=by
 obtain ⟨h8,hb⟩:=hN n (mG h);have hp:=leastF_pos (K:=depN ND d) h8 hb;have hg:(depN ND (d + 1)).getD i 0=leastF n (depN ND d):=by rw [depN_get,h]
 obtain ⟨h1,h2⟩:=(depN_rnd ND d) i;refine ⟨?_,?_⟩
 ·rcases Nat.eq_zero_or_pos ((depN ND d).getD i 0) with h3 | h3
  ·by_cases h4:hvB n (posL (depN ND d))=true
   ·rw [if_pos ⟨h4,h3⟩];have:=h2 h3;rw [<- hp,<- hg] at h4;omega
   ·rw [if_neg (fun h=>h4 h.1),h3];rw [<- hp,<- hg] at h4;omega
  ·rw [if_neg (by omega)];exact (h1 h3).1
 ·rw [posL_get,hg,Bool.eq_iff_iff,decide_eq_true_eq];exact hp
def thB (D:List Nat) (e:Ed):Bool:=e.bare || decide (0 < edN D e)
def manyN (D:List Nat) (es:List Ed):Nat:=es.countP (thB D)
def moB (D:List Nat) (K:List Bool) (e:Ed):Bool:=thB D e && (!e.bare && K.getD e.to.toNat false)
def moreB (D:List Nat) (K:List Bool) (es:List Ed):Bool:=es.any (moB D K)
def sevF (n:Nd) (D:List Nat) (K:List Bool):Bool:=
 if n.kind=1 then true
 else if n.kind=2 then decide (n.lo < n.hi)
 else if n.kind=3 then decide (0 < n.most)
 else if n.kind=4 then decide (1 < n.names.length)
 else if n.kind=5 then decide (0 < n.most) && decide (0 < manyN D n.edges)
 else if n.kind=6 then decide (0 < manyN D n.edges)
 else if n.kind=7 then moreB D K n.edges && decide (manyN D n.edges=n.edges.length)
 else moreB D K n.edges || decide (1 < manyN D n.edges)
def sevN (ND:List Nd) (D:List Nat):Nat->List Bool
 | 0=>List.replicate ND.length false
 | t + 1=>ND.map fun n=>sevF n D (sevN ND D t)
theorem sevN_len (ND:List Nd) (D:List Nat):∀ t,(sevN ND D t).length=ND.length
 | 0=>by simp [sevN]
 | t + 1=>by simp [sevN]
theorem sevN_get (ND:List Nd) (D:List Nat) (t j:Nat):(sevN ND D (t + 1)).getD j false=match ND[j]? with | none=>false | some n=>sevF n D (sevN ND D t):=by
 simp only [sevN,List.getD_eq_getElem?_getD,List.getElem?_map];cases ND[j]?<;>rfl
theorem moreB_le {D:List Nat} {A B:List Bool} (h:LeB A B) {es:List Ed} (hm:moreB D A es=true):moreB D B es=true:=by
 unfold moreB at hm ⊢;rw [List.any_eq_true] at hm ⊢;obtain ⟨e,he,h1⟩:=hm;refine ⟨e,he,?_⟩;unfold moB at h1 ⊢;simp only [Bool.and_eq_true] at h1 ⊢;exact ⟨h1.1,h1.2.1,h _ h1.2.2⟩
theorem sevF_le {D:List Nat} {A B:List Bool} (h:LeB A B) (n:Nd) (hm:sevF n D A=true):sevF n D B=true:=by
 unfold sevF at hm ⊢;by_cases c1:n.kind=1
 ·rw [if_pos c1]
 rw [if_neg c1] at hm ⊢;by_cases c2:n.kind=2
 ·rw [if_pos c2] at hm ⊢;exact hm
 rw [if_neg c2] at hm ⊢;by_cases c3:n.kind=3
 ·rw [if_pos c3] at hm ⊢;exact hm
 rw [if_neg c3] at hm ⊢;by_cases c4:n.kind=4
 ·rw [if_pos c4] at hm ⊢;exact hm
 rw [if_neg c4] at hm ⊢;by_cases c5:n.kind=5
 ·rw [if_pos c5] at hm ⊢;exact hm
 rw [if_neg c5] at hm ⊢;by_cases c6:n.kind=6
 ·rw [if_pos c6] at hm ⊢;exact hm
 rw [if_neg c6] at hm ⊢;by_cases c7:n.kind=7
 ·rw [if_pos c7] at hm ⊢;rw [Bool.and_eq_true] at hm ⊢;exact ⟨moreB_le h hm.1,hm.2⟩
 rw [if_neg c7] at hm ⊢;rw [Bool.or_eq_true] at hm ⊢;exact hm.imp (moreB_le h) id
theorem sevN_le (ND:List Nd) (D:List Nat):∀ t,LeB (sevN ND D t) (sevN ND D (t + 1))
 | 0=>fun j h=>by
  rw [sevN,List.getD_eq_getElem?_getD,List.getElem?_replicate] at h;split at h<;>cases h
 | t + 1=>fun j h=>by
  rw [sevN_get] at h ⊢
  cases hn:ND[j]? with
  | none=>rw [hn] at h;cases h
  | some n=>
   rw [hn] at h;exact sevF_le (sevN_le ND D t) n h
theorem sevN_step (ND:List Nd) (D:List Nat):∀ t,sevN ND D (t + 1)=sevN ND D t∨t<=cntB (sevN ND D t)
 | 0=>.inr (Nat.zero_le _)
 | t + 1=>by
  rcases sevN_step ND D t with h | h
  ·left;show (ND.map fun n=>sevF n D (sevN ND D (t + 1)))=ND.map fun n=>sevF n D (sevN ND D t);rw [h]
  ·rcases (leB_eq (by rw [sevN_len,sevN_len]) (sevN_le ND D t)).1 with h2 | h2
   ·left;show (ND.map fun n=>sevF n D (sevN ND D (t + 1)))=ND.map fun n=>sevF n D (sevN ND D t);rw [<- h2]
   ·exact .inr (by omega)
theorem sevN_end (ND:List Nd) (D:List Nat):sevN ND D (ND.length + 1)=sevN ND D ND.length:=by
 rcases sevN_step ND D ND.length with h | h
 ·exact h
 ·rcases (leB_eq (by rw [sevN_len,sevN_len]) (sevN_le ND D ND.length)).1 with h2 | h2
  ·exact h2.symm
  ·have:=cntB_le (sevN ND D (ND.length + 1));rw [sevN_len] at this;omega
def sevS (ND:List Nd) (D:List Nat):List Bool:=sevN ND D ND.length
theorem sevS_fix (ND:List Nd) (D:List Nat):(ND.map fun n=>sevF n D (sevS ND D))=sevS ND D:=sevN_end ND D
theorem sevN_top (ND:List Nd) (D:List Nat):∀ k,sevN ND D (ND.length + k)=sevS ND D
 | 0=>rfl
 | k + 1=>by
  show (ND.map fun n=>sevF n D (sevN ND D (ND.length + k)))=_;rw [sevN_top ND D k,sevS_fix]
theorem sevN_closed {ND:List Nd} {D:List Nat} {K:List Bool} (h:∀ j n,ND[j]? = some n->sevF n D K=true->K.getD j false=true):∀ t,LeB (sevN ND D t) K
 | 0=>fun j hj=>by
  rw [sevN,List.getD_eq_getElem?_getD,List.getElem?_replicate] at hj;split at hj<;>cases hj
 | t + 1=>fun j hj=>by
  rw [sevN_get] at hj
  cases hn:ND[j]? with
  | none=>rw [hn] at hj;cases hj
  | some n=>
   rw [hn] at hj;exact h j n hn (sevF_le (sevN_closed h t) n hj)
theorem sevS_eq {ND:List Nd} {D:List Nat} {K:List Bool} (hl:K.length=ND.length) (h1:LeB K (sevS ND D)) (h:∀ j n,ND[j]? = some n->sevF n D K=true->K.getD j false=true):K=sevS ND D:=
 leB_anti (by rw [hl,sevS,sevN_len]) h1 (sevN_closed h _)
theorem sevS_set {ND:List Nd} {D:List Nat} {K:List Bool} (h1:LeB K (sevS ND D)) {i:Nat} {n:Nd} (hn:ND[i]? = some n) (h2:sevF n D K=true):LeB (K.set i true) (sevS ND D):=fun j hj=>by
 by_cases hij:i=j
 ·subst hij;have:=sevF_le h1 n h2;have h3:=sevN_get ND D ND.length i;rw [hn] at h3;rw [<- sevS_fix];show (sevN ND D (ND.length + 1)).getD i false=true;rw [h3];exact this
 ·refine h1 j ?_;rw [List.getD_eq_getElem?_getD,List.getElem?_set_ne hij] at hj;rw [List.getD_eq_getElem?_getD];exact hj
theorem cntB_set {K:List Bool} {i:Nat} (hi:i < K.length) (h:K.getD i false=false):cntB K < cntB (K.set i true):=by
 have hle:LeB K (K.set i true):=fun j hj=>by
  by_cases hij:i=j
  ·subst hij;rw [List.getD_eq_getElem?_getD,List.getElem?_set_self hi];rfl
  ·rw [List.getD_eq_getElem?_getD,List.getElem?_set_ne hij,<- List.getD_eq_getElem?_getD];exact hj
 rcases (leB_eq (by simp) hle).1 with h2 | h2
 ·rw [h2,List.getD_eq_getElem?_getD,List.getElem?_set_self hi] at h;cases h
 ·exact h2
def cutN (n:Nat):Nat:=if 2 < n then 2 else n
theorem cutN_eq (n:Nat):cutN n=min 2 n:=by unfold cutN;split<;>omega
def valE (K:List Nat) (e:Ed):Nat:=if e.bare=true then 1 else edN K e
def sumC (K:List Nat):List Ed->Nat->Nat
 | [],a=>a
 | e :: r,a=>sumC K r (cutN (a + valE K e))
def allC (K:List Nat):List Ed->Nat->Nat
 | [],a=>a
 | e :: r,a=>allC K r (cutN (a * valE K e))
def countF (n:Nd) (K:List Nat):Nat:=
 if n.kind=1 then 2
 else if n.kind=2 then (if n.lo < n.hi then 2 else 1)
 else if n.kind=3 then cutN (1 + n.most.toNat)
 else if n.kind=4 then cutN n.names.length
 else if n.kind=5 then (if n.most=0 then 1 else cutN (1 + sumC K n.edges 0))
 else if n.kind=6 then cutN (1 + sumC K n.edges 0)
 else if n.kind=7 then allC K n.edges 1
 else sumC K n.edges 0
def qF (d:Nat) (s:Bool):Nat:=if d=0 then 0 else if s=true then 2 else 1
def qL (D:List Nat) (S:List Bool):List Nat:=(List.range D.length).map fun i=>qF (D.getD i 0) (S.getD i false)
theorem qL_len (D:List Nat) (S:List Bool):(qL D S).length=D.length:=by simp [qL]
theorem qL_get (D:List Nat) (S:List Bool) (j:Nat):(qL D S).getD j 0=qF (D.getD j 0) (S.getD j false):=by
 unfold qL;rw [List.getD_eq_getElem?_getD,List.getElem?_map];by_cases h:j < D.length
 ·rw [List.getElem?_range h];all_goals rfl
 ·rw [List.getElem?_eq_none (by simpa using h),List.getD_eq_getElem?_getD (l:=D),List.getElem?_eq_none (by omega)];all_goals rfl
theorem valE_q (D:List Nat) (S:List Bool) (e:Ed):valE (qL D S) e=if thB D e=true then (if moB D S e=true then 2 else 1) else 0:=by
 unfold valE moB thB;by_cases hb:e.bare=true
 ·rw [if_pos hb,hb];simp
 ·have hb:e.bare=false:=by simpa using hb
  rw [if_neg (by rw [hb];simp),hb];unfold edN;rw [qL_get];unfold qF;by_cases h0:D.getD e.to.toNat 0=0
  ·rw [if_pos h0,h0];simp
  ·rw [if_neg h0];generalize D.getD e.to.toNat 0=d at h0 ⊢;generalize S.getD e.to.toNat false=s;have:0 < d:=by omega
   simp [this]
def sumQ (D:List Nat) (S:List Bool) (es:List Ed):Nat:=(es.map (valE (qL D S))).sum
theorem moB_th {D:List Nat} {S:List Bool} {e:Ed} (h:moB D S e=true):thB D e=true:=by
 unfold moB at h;rw [Bool.and_eq_true] at h;exact h.1
theorem sumQ_facts (D:List Nat) (S:List Bool):∀ es:List Ed,manyN D es<=sumQ D S es/\sumQ D S es<=2 * manyN D es/\(moreB D S es=true->2<=sumQ D S es)/\(moreB D S es=false->sumQ D S es=manyN D es)
 | []=>by simp [manyN,sumQ,moreB]
 | e :: r=>by
  obtain ⟨h1,h2,h3,h4⟩:=sumQ_facts D S r;have hv:=valE_q D S e;have hs:sumQ D S (e :: r)=valE (qL D S) e + sumQ D S r:=by simp [sumQ]
  have hm:manyN D (e :: r)=(if thB D e=true then 1 else 0) + manyN D r:=by simp [manyN,List.countP_cons];omega
  have hmo:moreB D S (e :: r)=(moB D S e || moreB D S r):=by simp [moreB]
  rw [hs,hm,hmo,hv];by_cases ht:thB D e=true
  ·rw [if_pos ht,if_pos ht];by_cases hx:moB D S e=true
   ·rw [if_pos hx,hx];exact ⟨by omega,by omega,fun _=>by omega,fun h=>by simp at h⟩
   ·have hx':moB D S e=false:=by simpa using hx
    rw [if_neg hx,hx',Bool.false_or];exact ⟨by omega,by omega,fun h=>by have:=h3 h;omega,fun h=>by have:=h4 h;omega⟩
  ·have hx':moB D S e=false:=by
    cases hx:moB D S e
    ·rfl
    ·exact absurd (moB_th hx) ht
   rw [if_neg ht,if_neg ht,hx',Bool.false_or];exact ⟨by omega,by omega,fun h=>by have:=h3 h;omega,fun h=>by have:=h4 h;omega⟩
theorem sumC_eq (D:List Nat) (S:List Bool):∀ (es:List Ed) (a:Nat),a<=2->sumC (qL D S) es a=min 2 (a + sumQ D S es)
 | [],a,h=>by simp [sumC,sumQ];omega
 | e :: r,a,h=>by
  have hs:sumQ D S (e :: r)=valE (qL D S) e + sumQ D S r:=by simp [sumQ]
  rw [sumC,sumC_eq D S r _ (by unfold cutN;split<;>omega),hs];unfold cutN;split<;>omega
theorem allC_eq (D:List Nat) (S:List Bool):∀ (es:List Ed) (a:Nat),a<=2->allC (qL D S) es a=if a=0∨manyN D es < es.length then 0 else if a=2∨moreB D S es=true then 2 else 1
 | [],a,h=>by
  rw [allC];have h1:manyN D []=0:=rfl;have h2:moreB D S []=false:=rfl;rw [h1,h2];simp only [List.length_nil,Nat.lt_irrefl,or_false,Bool.false_eq_true];split
  ·omega
  ·split<;>omega
 | e :: r,a,h=>by
  have hv:=valE_q D S e;have hm:manyN D (e :: r)=(if thB D e=true then 1 else 0) + manyN D r:=by simp [manyN,List.countP_cons];omega
  have hmo:moreB D S (e :: r)=(moB D S e || moreB D S r):=by simp [moreB]
  have hle:manyN D r<=r.length:=List.countP_le_length;have hlt:(1 + manyN D r < r.length + 1)↔(manyN D r < r.length):=by omega
  rw [allC,allC_eq D S r _ (by unfold cutN;split<;>omega),hm,hmo,hv,List.length_cons];by_cases ht:thB D e=true
  ·rw [if_pos ht,if_pos ht];by_cases hx:moB D S e=true
   ·rw [if_pos hx,hx,Bool.true_or];simp only [hlt];rcases (show a=0∨a=1∨a=2 by omega) with rfl | rfl | rfl
    ·simp [cutN]
    ·simp [cutN]
    ·simp [cutN]
   ·have hx':moB D S e=false:=by simpa using hx
    rw [if_neg hx,hx',Bool.false_or,Nat.mul_one];have hc:cutN a=a:=by unfold cutN;split<;>omega
    rw [hc];simp only [hlt]
  ·rw [if_neg ht,if_neg ht,Nat.mul_zero];have h0:cutN 0=0:=rfl;rw [h0,if_pos (.inl rfl),if_pos (.inr (by omega))]
theorem countF_eq {L N:Nat} {n:Nd} {D:List Nat} {S:List Bool} (hn:NdOK L N n) (hd:0 < leastF n D):countF n (qL D S)=if sevF n D S=true then 2 else 1:=by
 obtain ⟨s1,s2,s3,s4⟩:=sumQ_facts D S n.edges;have hs:=sumC_eq D S n.edges 0 (by omega);have ha:=allC_eq D S n.edges 1 (by omega);have hk1:=hn.k1;have hk8:=hn.k8;unfold countF sevF;by_cases c1:n.kind=1
 ·rw [if_pos c1,if_pos c1];all_goals rfl
 rw [if_neg c1,if_neg c1];by_cases c2:n.kind=2
 ·rw [if_pos c2,if_pos c2];simp
 rw [if_neg c2,if_neg c2];by_cases c3:n.kind=3
 ·rw [if_pos c3,if_pos c3];have:=hn.most3 c3;rw [cutN_eq];by_cases hm:0 < n.most
  ·rw [if_pos (by simpa using hm)];omega
  ·rw [if_neg (by simpa using hm)];omega
 rw [if_neg c3,if_neg c3];by_cases c4:n.kind=4
 ·rw [if_pos c4,if_pos c4];have:=List.length_pos_iff.2 (hn.names c4).1;rw [cutN_eq];by_cases hm:1 < n.names.length
  ·rw [if_pos (by simpa using hm)];omega
  ·rw [if_neg (by simpa using hm)];omega
 rw [if_neg c4,if_neg c4];by_cases c5:n.kind=5
 ·rw [if_pos c5,if_pos c5];have:=hn.most5 c5;by_cases hm:n.most=0
  ·rw [if_pos hm,hm];simp
  ·rw [if_neg hm,hs];have hm':0 < n.most:=by omega
   rw [cutN_eq];by_cases hy:0 < manyN D n.edges
   ·rw [if_pos (by simp [hm',hy])];omega
   ·rw [if_neg (by simp [hy])];omega
 rw [if_neg c5,if_neg c5];by_cases c6:n.kind=6
 ·rw [if_pos c6,if_pos c6,hs];rw [cutN_eq];by_cases hy:0 < manyN D n.edges
  ·rw [if_pos (by simp [hy])];omega
  ·rw [if_neg (by simp [hy])];omega
 rw [if_neg c6,if_neg c6];by_cases c7:n.kind=7
 ·rw [if_pos c7,if_pos c7,ha];unfold leastF at hd;rw [if_pos c7] at hd
  have hall:manyN D n.edges=n.edges.length:=by
   unfold manyN;rw [List.countP_eq_length];intro e he
   have:¬ edN D e=0:=fun h=>by
    have:=leastR_zero (K:=D) (es:=n.edges) (m:=0) |>.2 ⟨e,he,h⟩
    omega
   unfold thB;simp;right;omega
  rw [if_neg (by omega),hall];simp
 rw [if_neg c7,if_neg c7,hs];unfold leastF at hd;rw [if_neg c7,if_pos (by omega)] at hd
 have hex:0 < manyN D n.edges:=by
  have h1:=(leastU_pos.1 hd).resolve_left (by omega);unfold manyN;rw [List.countP_pos_iff];rw [List.any_eq_true] at h1;obtain ⟨e,he,h2⟩:=h1;refine ⟨e,he,?_⟩;unfold inK at h2;unfold thB;have:(posL D).getD e.to.toNat false=decide (0 < edN D e):=posL_get D _;rw [this] at h2;exact h2
 by_cases hm:moreB D S n.edges=true
 ·have:=s3 hm;rw [if_pos (by simp [hm])];omega
 ·have hm':moreB D S n.edges=false:=by simpa using hm
  have:=s4 hm';by_cases hy:1 < manyN D n.edges
  ·rw [if_pos (by simp [hy])];omega
  ·rw [if_neg (by simp [hm',hy])];omega
theorem sevF_dep {L N:Nat} {n:Nd} {D:List Nat} {S:List Bool} (hn:NdOK L N n) (h:sevF n D S=true):0 < leastF n D:=by
 have hk1:=hn.k1;have hk8:=hn.k8;unfold sevF at h;unfold leastF;by_cases c7:n.kind=7
 ·rw [if_pos c7];simp only [c7] at h;simp only [Int.reduceEq,if_false,if_true,Bool.and_eq_true,decide_eq_true_eq] at h;have h2:=h.2;unfold manyN at h2;rw [List.countP_eq_length] at h2;refine Nat.pos_of_ne_zero fun h0=>?_;obtain ⟨e,he,hz⟩:=leastR_zero.1 h0;have:=h2 e he;unfold thB at this
  have hb:e.bare=false:=by
   cases hb:e.bare
   ·rfl
   ·have:=hn.bare e he hb;omega
  rw [hb,hz] at this;simp at this
 rw [if_neg c7];by_cases c8:n.kind=8
 ·rw [if_pos c8];simp only [c8] at h;simp only [Int.reduceEq,if_false,Bool.or_eq_true,decide_eq_true_eq] at h;refine leastU_pos.2 (.inr ?_)
  have key:∀ e∈n.edges,thB D e=true->n.edges.any (inK (posL D))=true:=fun e he ht=>by
   rw [List.any_eq_true];refine ⟨e,he,?_⟩;unfold inK;have:(posL D).getD e.to.toNat false=decide (0 < edN D e):=posL_get D _;rw [this];exact ht
  rcases h with h | h
  ·unfold moreB at h;rw [List.any_eq_true] at h;obtain ⟨e,he,hm⟩:=h;exact key e he (moB_th hm)
  ·have h:0 < manyN D n.edges:=by omega
   unfold manyN at h;rw [List.countP_pos_iff] at h;obtain ⟨e,he,ht⟩:=h;exact key e he ht
 ·rw [if_neg c8];omega
theorem qL_step {L:Nat} {ND:List Nd} {D:List Nat} (hok:∀ n∈ND,NdOK L ND.length n) (hl:D.length=ND.length) (hget:∀ j,D.getD j 0=match ND[j]? with | none=>0 | some n=>leastF n D) (t:Nat) {i:Nat} {n:Nd} (hn:ND[i]? = some n) :
  (qL D (sevN ND D (t + 1))).getD i 0=if D.getD i 0=0 then 0 else countF n (qL D (sevN ND D t)):=by
 have h1:=hget i;rw [hn] at h1;have h1:D.getD i 0=leastF n D:=h1;rw [qL_get,sevN_get,hn];unfold qF;by_cases h0:D.getD i 0=0
 ·rw [if_pos h0,if_pos h0]
 ·rw [if_neg h0,if_neg h0,countF_eq (hok n (mG hn)) (by omega)]
theorem ndsA_mem {lev:List Wd->Int} {s:Sch} {n:Nd}:∀ {l:List Ty} {k:Nat},n∈ndsA lev s l k->∃ t∈l,∃ u∈flatT t,∃ k',n=ndR lev s u k'
 | [],_,h=>by cases h
 | t :: r,k,h=>by
  rw [ndsA] at h;rcases List.mem_append.1 h with h | h
  ·rw [ndsT_eq] at h;obtain ⟨x,hx,rfl⟩:=List.mem_map.1 h;have:=(List.mem_zipIdx hx).2.2;refine ⟨t,List.mem_cons_self,x.1,?_,_,rfl⟩;rw [this];exact List.getElem_mem _
  ·obtain ⟨t',ht,h⟩:=ndsA_mem h;exact ⟨t',List.mem_cons_of_mem _ ht,h⟩
theorem resNds_sz {S:Sch} {n:Nd} (h:n∈resNds S) (hS:S.wt<=1099511627776):n.names.length<=1099511627776/\n.edges.length<=1099511627776:=by
 rw [resNds_eq] at h;obtain ⟨t,ht,u,hu,k,rfl⟩:=ndsA_mem h;have h1:=allT_wt hS t ht;have h2:=flatT_wt t u hu;obtain ⟨uh,us⟩:=u;have h3:=wdsWt_len uh.names;have h4:=us.wt_len;simp only [Ty.wt,Hd.wt] at h2;simp only [ndR,Ty.h,Ty.ps,nmTx_len,edsP_len];omega
abbrev zNd:List DV:=[.v (.int .i64 0),.v (.int .i64 0),.v (.int .i64 0),.v (.int .i64 0),.v (.int .i64 0),.v (.slice none 0 0),.v (.slice none 0 0)]
structure PlanR (S:Sch) (ND:List Nd) (PC:List DV):Prop where
 fine:FineS S
 wt:S.wt<=1099511627776
 nds:ND=resNds S
 ok:∀ n∈ND,NdOK S.levels.length ND.length n
 nl:ND.length<=1099511627776
 len:EvP Tryz.prog 202 [.pt PC 0] (.v (.int .i64 ND.length))
 root:EvP Tryz.prog 35 [.pt PC 0] (.v (.int .i64 (resRoot S)))
 node:∀ (i:Nat) n,ND[i]? = some n->EvP Tryz.prog 100 [.pt PC 0,.v (.int .i64 i)] (.tup [.agg (dNd n),.v (.bool true)])
 nodeN:∀ i:Int,(i < 0∨ND.length<=i)->EvP Tryz.prog 100 [.pt PC 0,.v (.int .i64 i)] (.tup [.agg zNd,.v (.bool false)])
 lat:∃ ord js,(lxOf S ord js).OK/\EvP Tryz.prog 53 [.pt PC 0] (lxOf S ord js).pd
theorem planR_of {S:Sch} {d:DV} (hS:S.wt<=1099511627776) (h0:(resF S).1=0) (hd:PlanD S d):∃ PC,d = .pt PC 0/\PlanR S (resNds S) PC:=by
 obtain ⟨ord,ord2,js,hX,hT,hol,rfl⟩:=hd;have hF:=fineS_of h0;have hsz:=fun n (h:n∈resNds S)=>resNds_sz h hS
 refine ⟨_,rfl,{
  fine:=hF
  wt:=hS
  nds:=rfl
  ok:=fun n hn=>?_
  nl:=by rw [resNds_len];exact Nat.le_trans (nnS_wt S) hS
  len:=plen_spec _ _ _ _ _ _
  root:=proot_spec _ _ _ _ _ _
  node:=fun i n h=>pnode_spec _ _ _ _ _ _ i n h (hsz n (mG h)).1 (hsz n (mG h)).2
  nodeN:=fun i h=>pnode_none _ _ _ _ _ _ i h
  lat:=⟨ord,js,hX,plat_spec _ _ _ _ _ _⟩ }⟩
 obtain ⟨i,hi⟩:=List.mem_iff_getElem?.1 hn;exact resNds_ok hF hi
def BuiltΦ (S:Sch) (r:DV):Prop:=((resF S).1≠0/\r = .tup [.v (.pointer none),(resF S).d])∨((resF S).1=0/\∃ PC,PlanR S (resNds S) PC/\r = .tup [.pt PC 0,Ft.d (0,0)])
theorem builtΦ_of {S:Sch} (hS:S.wt<=1099511627776) {r:DV} {os:List (List DV)} {tk:List TkE} (h:ResΦ S r os tk):BuiltΦ S r:=by
 unfold ResΦ at h;by_cases h0:(resF S).1=0
 ·rw [if_neg (by rw [h0];simp)] at h;obtain ⟨d,hd,rfl⟩:=h;obtain ⟨PC,rfl,hP⟩:=planR_of hS h0 hd;exact .inr ⟨h0,PC,hP,rfl⟩
 ·rw [if_pos h0] at h;exact .inl ⟨h0,h⟩
end Go.Proofs.YtadbccicdbopcaaGreat
