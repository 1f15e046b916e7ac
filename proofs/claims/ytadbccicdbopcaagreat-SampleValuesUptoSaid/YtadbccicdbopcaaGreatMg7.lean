/- Part 7 of the proof: First and second values, the document's: Make; Rules for the evaluator: calls that hand back fresh rows; Rules for the evaluator: elements of rows whose cells nobody else knows, read and written whole; Rules for the evaluator: a slice literal without elements, its cells known; Rules for the evaluator: a slice literal, its cells known; A contract that hands back a fresh row is one of data alone, too; Values that are the same; Which values fit which nodes: plain, as the program finds it and as the document says it; tree's leaf, kids, Fits; tree.Fits; the document's To, Fits; Values as they are written: plain; tree.write, Raw; Paths: data, Step compared with itself; ref09.Begins, Same on the same path; ref25.Step; Paths of a value: plain; tree.steps; Where steps lead in a value, and that value with another one there: plain; tree: slices.Index of steps, kid, clone, Get; tree: put, Set; Sample: one: first values; Sample: two: second values; Sample: fits, First, Second; no plan; First and second values, the document's: First, tagged, Second; Second values, the document's; First and second values: how great they are; tree.write, Raw; The document's Fits; Written values: well formed; the document's Same on the same value; its Raw; The document's Kid, Get, Set of a value that fits; The document's Same of values, Set; The numbers of a plan's nodes are ints; The law of first and second values: fine, the example, the call returns true. No condition. -/
import Derived.Test.YtadbccicdbopcaaGreatMg2
import Derived.Test.YtadbccicdbopcaaGreatMg3
import Derived.Test.YtadbccicdbopcaaGreatMg4
import Derived.Test.YtadbccicdbopcaaGreatMg5
import Derived.Test.YtadbccicdbopcaaGreatMg6
set_option linter.all false
set_option maxRecDepth 100000
namespace Go.Proofs.YtadbccicdbopcaaGreat
open Go Go.RowKit Dv Tryz
theorem bx5 {a b c d e a' b' c' d' e':List DV} (h1:a=a') (h2:b=b') (h3:c=c') (h4:d=d') (h5:e=e') : [a,b,c,d,e]=[a',b',c',d',e']:=by rw [h1,h2,h3,h4,h5]
theorem rz1 (f:Nat->Nat) (n:Nat):(List.replicate n (vL [Value.int .i64 0])).flatten=renL f (List.replicate n (vL [Value.int .i64 0])).flatten:=(rep_ren f n).symm
theorem rz2 (f g:Nat->Nat) (n:Nat):(List.replicate n (vL [Value.int .i64 0])).flatten=renL f (renL g (List.replicate n (vL [Value.int .i64 0])).flatten):=by rw [rep_ren,rep_ren]
section
variable (a b:Nat) (A B:List (List DV)) (ND:List Nd) (z:Int)
abbrev mkW (D M:List Nat):List DV:=[.sl a A none,.sl b B none,.sl 7 (dNds ND) none,.v (.int .i64 z),.sl 1 (dInts D) none,.sl 1 (dInts M) none,.ms 2 1 0 (dNds ND).length (dNds ND).length,.ms 3 1 0 (dNds ND).length (dNds ND).length]
abbrev z54:List DV:=[.v (.slice none 0 0),.v (.slice none 0 0),.v (.slice none 0 0),.v (.int .i64 0),.v (.slice none 0 0),.v (.slice none 0 0),.v (.slice none 0 0),.v (.slice none 0 0)]
theorem mw_cc {D M t o:List Nat} {bx:List (List DV)} (ht:t.length=ND.length) (ho:o.length=ND.length) (h1:bx[2]? = some (cN t)) (h2:bx[3]? = some (cN o)):CcL bx 0 0 0 (w26 a b A B ND z D M t o) (mkW a b A B ND z D M):=
 ⟨_,_,rfl,ax,_,_,rfl,ax,_,_,rfl,ax,_,_,rfl,ax,_,_,rfl,ax,_,_,rfl,ax,_,_,rfl,ms_n (ht.trans (dNds_len ND).symm) (Nat.zero_le _) h1,_,_,rfl,ms_n (ho.trans (dNds_len ND).symm) (Nat.zero_le _) h2,rfl⟩
abbrev mw1St (D M:List Nat) (d:Nat) (t o:List Nat):St:=
 ⟨[(1,⟨[],.loc 0 0⟩),(2,⟨[],.loc 1 0⟩),(3,⟨[],.loc 4 0⟩),(4,⟨[],.v (.int .i64 d)⟩)],[wG a b A B ND z,z54,cN t,cN o,mkW a b A B ND z D M],[]⟩
abbrev mw2St (D M:List Nat) (d:Nat) (t o:List Nat) (e:Nat):St:=
 ⟨[(1,⟨[],.loc 0 0⟩),(2,⟨[],.loc 1 0⟩),(3,⟨[],.loc 4 0⟩),(4,⟨[],.v (.int .i64 d)⟩),(5,⟨[],.v (.int .i64 e)⟩)],[wG a b A B ND z,z54,cN t,cN o,mkW a b A B ND z D M],[]⟩
abbrev mw3St (D M:List Nat) (d:Nat) (t o:List Nat):St:=
 ⟨[(1,⟨[],.loc 0 0⟩),(2,⟨[],.loc 1 0⟩),(3,⟨[],.loc 4 0⟩),(6,⟨[],.v (.int .i64 d)⟩)],[wG a b A B ND z,z54,cN t,cN o,mkW a b A B ND z D M],[]⟩
abbrev mw4St (D M:List Nat) (d:Nat) (t o:List Nat) (e:Nat):St:=
 ⟨[(1,⟨[],.loc 0 0⟩),(2,⟨[],.loc 1 0⟩),(3,⟨[],.loc 4 0⟩),(6,⟨[],.v (.int .i64 d)⟩),(7,⟨[],.v (.int .i64 e)⟩)],[wG a b A B ND z,z54,cN t,cN o,mkW a b A B ND z D M],[]⟩
set_option maxHeartbeats 4000000 in
theorem make26_spec {L:Nat} (hok:∀ n∈ND,NdOK L ND.length n) (hnl:ND.length<=1099511627776) (hsz:∀ n∈ND,n.edges.length<=1099511627776) (hsn:∀ n∈ND,n.names.length<=1099511627776) :
  EvP Tryz.prog 22 [.agg (wG a b A B ND z)] (.agg (w26 a b A B ND z (depN ND ND.length) (qL (depN ND ND.length) (sevS ND (depN ND ND.length))) (szT ND (depN ND ND.length)) (otT (szT ND (depN ND ND.length)) (depN ND ND.length) (sevS ND (depN ND ND.length)) ND))):=by
 have hdp:=depths19_spec a b A B z hok hnl hsz;have hmn:=many19_spec a b A B z hok hnl hsz hsn;have hdl:=dNds_len ND;generalize hD:depN ND ND.length=D at hdp hmn ⊢;have hO:DepOK ND D:=hD ▸ depOK ND
 have hget:∀ j,D.getD j 0=match ND[j]? with | none=>0 | some n=>leastF n D:=fun j=>by
  have:=depN_get ND ND.length j;rw [depN_end,hD] at this;exact this
 have hKM:=sevS_q (D:=D) hok hget;have hlM:(qL D (sevS ND D)).length=ND.length:=by rw [qL_len];exact hO.len
 have hlD:=hO.len
 have hsec:∀ i n,ND[i]? = some n->(sevS ND D).getD i false=true->SecOK D (sevS ND D) n/\0 < D.getD i 0:=fun i n hn h=>by
  rw [<- sevS_fix,List.getD_eq_getElem?_getD,List.getElem?_map,hn] at h;exact ⟨secOK_of (hok n (mG hn)) h,by rw [hO.get i n hn];exact sevF_dep (hok n (mG hn)) h⟩
 generalize hM:qL D (sevS ND D)=M at hmn hKM hlM ⊢;generalize hR:DV.agg (w26 a b A B ND z D M (szT ND D) (otT (szT ND D) D (sevS ND D) ND))=R;refine ev_go (P:=Tryz.prog) tt tt_ok 5000 86 [.cell 2 54] Tryz.func22 rfl Tryz.ntmps22 rfl (nL rfl) (fun E9 w9 hn9 hm9=>?_);have h1:(0:Int)<=((dNds ND).length:Int):=by omega
 have h2:(8:Int) * ((dNds ND).length:Int)<=281474976710656:=by omega
 have h3:((dNds ND).length:Int)<=4611686018427387904:=by omega
 apply drawG_ls (.op 0 (.op 1 (.op 3 (.op 5 (.op 6 (.op 7 (.op 9 (.op 10 (.op 11 (.ev 2 (.ev 4 (.ev 8 (.ev 12 (.op 13 (.ev 14 (.ev 15 .fin .stop) .stop)) (.ev 14 (.ev 12 (.op 13 (.ev 15 .fin .stop)) .stop) .stop)) (.ev 12 (.ev 8 (.op 13 (.ev 14 (.ev 15 .fin .stop) .stop)) (.ev 14 (.ev 8 (.op 13 (.ev 15 .fin .stop)) .stop) .stop)) (.ev 14 (.ev 8 (.ev 12 (.op 13 (.ev 15 .fin .stop)) .stop) (.ev 12 (.ev 8 (.op 13 (.ev 15 .fin .stop)) .stop) .stop)) .stop))) (.ev 8 (.ev 4 (.ev 12 (.op 13 (.ev 14 (.ev 15 .fin .stop) .stop)) (.ev 14 (.ev 12 (.op 13 (.ev 15 .fin .stop)) .stop) .stop)) (.ev 12 (.ev 4 (.op 13 (.ev 14 (.ev 15 .fin .stop) .stop)) (.ev 14 (.ev 4 (.op 13 (.ev 15 .fin .stop)) .stop) .stop)) (.ev 14 (.ev 4 (.ev 12 (.op 13 (.ev 15 .fin .stop)) .stop) (.ev 12 (.ev 4 (.op 13 (.ev 15 .fin .stop)) .stop) .stop)) .stop))) (.ev 12 (.ev 4 (.ev 8 (.op 13 (.ev 14 (.ev 15 .fin .stop) .stop)) (.ev 14 (.ev 8 (.op 13 (.ev 15 .fin .stop)) .stop) .stop)) (.ev 8 (.ev 4 (.op 13 (.ev 14 (.ev 15 .fin .stop) .stop)) (.ev 14 (.ev 4 (.op 13 (.ev 15 .fin .stop)) .stop) .stop)) (.ev 14 (.ev 4 (.ev 8 (.op 13 (.ev 15 .fin .stop)) .stop) (.ev 8 (.ev 4 (.op 13 (.ev 15 .fin .stop)) .stop) .stop)) .stop))) (.ev 14 (.ev 4 (.ev 8 (.ev 12 (.op 13 (.ev 15 .fin .stop)) .stop) (.ev 12 (.ev 8 (.op 13 (.ev 15 .fin .stop)) .stop) .stop)) (.ev 8 (.ev 4 (.ev 12 (.op 13 (.ev 15 .fin .stop)) .stop) (.ev 12 (.ev 4 (.op 13 (.ev 15 .fin .stop)) .stop) .stop)) (.ev 12 (.ev 4 (.ev 8 (.op 13 (.ev 15 .fin .stop)) .stop) (.ev 8 (.ev 4 (.op 13 (.ev 15 .fin .stop)) .stop) .stop)) .stop))) .stop)))) (.ev 8 (.ev 2 (.ev 4 (.ev 12 (.op 13 (.ev 14 (.ev 15 .fin .stop) .stop)) (.ev 14 (.ev 12 (.op 13 (.ev 15 .fin .stop)) .stop) .stop)) (.ev 12 (.ev 4 (.op 13 (.ev 14 (.ev 15 .fin .stop) .stop)) (.ev 14 (.ev 4 (.op 13 (.ev 15 .fin .stop)) .stop) .stop)) (.ev 14 (.ev 4 (.ev 12 (.op 13 (.ev 15 .fin .stop)) .stop) (.ev 12 (.ev 4 (.op 13 (.ev 15 .fin .stop)) .stop) .stop)) .stop))) (.ev 12 (.ev 2 (.ev 4 (.op 13 (.ev 14 (.ev 15 .fin .stop) .stop)) (.ev 14 (.ev 4 (.op 13 (.ev 15 .fin .stop)) .stop) .stop)) (.ev 14 (.ev 2 (.ev 4 (.op 13 (.ev 15 .fin .stop)) .stop) .stop) .stop)) (.ev 14 (.ev 2 (.ev 4 (.ev 12 (.op 13 (.ev 15 .fin .stop)) .stop) (.ev 12 (.ev 4 (.op 13 (.ev 15 .fin .stop)) .stop) .stop)) (.ev 12 (.ev 2 (.ev 4 (.op 13 (.ev 15 .fin .stop)) .stop) .stop) .stop)) .stop))) (.ev 12 (.ev 2 (.ev 4 (.ev 8 (.op 13 (.ev 14 (.ev 15 .fin .stop) .stop)) (.ev 14 (.ev 8 (.op 13 (.ev 15 .fin .stop)) .stop) .stop)) (.ev 8 (.ev 4 (.op 13 (.ev 14 (.ev 15 .fin .stop) .stop)) (.ev 14 (.ev 4 (.op 13 (.ev 15 .fin .stop)) .stop) .stop)) (.ev 14 (.ev 4 (.ev 8 (.op 13 (.ev 15 .fin .stop)) .stop) (.ev 8 (.ev 4 (.op 13 (.ev 15 .fin .stop)) .stop) .stop)) .stop))) (.ev 8 (.ev 2 (.ev 4 (.op 13 (.ev 14 (.ev 15 .fin .stop) .stop)) (.ev 14 (.ev 4 (.op 13 (.ev 15 .fin .stop)) .stop) .stop)) (.ev 14 (.ev 2 (.ev 4 (.op 13 (.ev 15 .fin .stop)) .stop) .stop) .stop)) (.ev 14 (.ev 2 (.ev 4 (.ev 8 (.op 13 (.ev 15 .fin .stop)) .stop) (.ev 8 (.ev 4 (.op 13 (.ev 15 .fin .stop)) .stop) .stop)) (.ev 8 (.ev 2 (.ev 4 (.op 13 (.ev 15 .fin .stop)) .stop) .stop) .stop)) .stop))) (.ev 14 (.ev 2 (.ev 4 (.ev 8 (.ev 12 (.op 13 (.ev 15 .fin .stop)) .stop) (.ev 12 (.ev 8 (.op 13 (.ev 15 .fin .stop)) .stop) .stop)) (.ev 8 (.ev 4 (.ev 12 (.op 13 (.ev 15 .fin .stop)) .stop) (.ev 12 (.ev 4 (.op 13 (.ev 15 .fin .stop)) .stop) .stop)) (.ev 12 (.ev 4 (.ev 8 (.op 13 (.ev 15 .fin .stop)) .stop) (.ev 8 (.ev 4 (.op 13 (.ev 15 .fin .stop)) .stop) .stop)) .stop))) (.ev 8 (.ev 2 (.ev 4 (.ev 12 (.op 13 (.ev 15 .fin .stop)) .stop) (.ev 12 (.ev 4 (.op 13 (.ev 15 .fin .stop)) .stop) .stop)) (.ev 12 (.ev 2 (.ev 4 (.op 13 (.ev 15 .fin .stop)) .stop) .stop) .stop)) (.ev 12 (.ev 2 (.ev 4 (.ev 8 (.op 13 (.ev 15 .fin .stop)) .stop) (.ev 8 (.ev 4 (.op 13 (.ev 15 .fin .stop)) .stop) .stop)) (.ev 8 (.ev 2 (.ev 4 (.op 13 (.ev 15 .fin .stop)) .stop) .stop) .stop)) .stop))) .stop))))))))))))) [[],[(3,4)],[(2,3)],[(2,3),(2,4)],[(2,3),(3,4)],[(2,4)]] mo (by decide +kernel);·exact ⟨callD_p en82 hdp ax rfl ⟨callD_p en83 hmn ax rfl ⟨⟨⟨rfl,h1,h2,h3⟩,⟨⟨⟨rfl,h1,h2,h3⟩,⟨⟨Or.inl rfl,trivial⟩,trivial⟩⟩,⟨⟨⟨⟨rfl,h1,h2,h3⟩,⟨Or.inr ⟨_,.tail _ (.head _),bx5 rfl rfl (rz1 _ _) rfl (rz1 _ _),rfl,⟨rfl,rfl,rfl,rfl,rfl,rfl,rfl,rfl,rfl,rfl,rfl,rfl,rfl,rfl,rfl,rfl,rfl,rfl,trivial⟩⟩,trivial⟩⟩,trivial⟩,trivial⟩⟩⟩,⟨⟨⟨rfl,h1,h2,h3⟩,⟨⟨⟨rfl,h1,h2,h3⟩,⟨⟨Or.inr ⟨_,.tail _ (.tail _ (.head _)),bx5 rfl rfl (rz1 _ _) (rz1 _ _) rfl,rfl,⟨rfl,rfl,rfl,rfl,rfl,rfl,rfl,rfl,rfl,rfl,rfl,rfl,rfl,rfl,rfl,rfl,rfl,rfl,trivial⟩⟩,trivial⟩,trivial⟩⟩,⟨⟨⟨⟨rfl,h1,h2,h3⟩,⟨Or.inr ⟨_,.tail _ (.tail _ (.tail _ (.head _))),bx5 rfl rfl (rz2 _ _ _) rfl (rz2 _ _ _),rfl,⟨rfl,rfl,rfl,rfl,rfl,rfl,rfl,rfl,rfl,rfl,rfl,rfl,rfl,rfl,rfl,rfl,rfl,rfl,trivial⟩⟩,trivial⟩⟩,trivial⟩,trivial⟩⟩⟩,⟨⟨⟨⟨rfl,h1,h2,h3⟩,⟨⟨⟨rfl,h1,h2,h3⟩,⟨Or.inr ⟨_,.tail _ (.tail _ (.tail _ (.tail _ (.head _)))),bx5 rfl rfl rfl (rz2 _ _ _) (rz2 _ _ _),rfl,⟨rfl,rfl,rfl,rfl,rfl,rfl,rfl,rfl,rfl,rfl,rfl,rfl,rfl,rfl,rfl,rfl,rfl,rfl,trivial⟩⟩,trivial⟩⟩,trivial⟩⟩,⟨⟨⟨rfl,h1,h2,h3⟩,⟨⟨⟨rfl,h1,h2,h3⟩,⟨Or.inr ⟨_,.tail _ (.tail _ (.tail _ (.tail _ (.tail _ (.head _))))),bx5 rfl rfl rfl (rz1 _ _) (rz1 _ _),rfl,⟨rfl,rfl,rfl,rfl,rfl,rfl,rfl,rfl,rfl,rfl,rfl,rfl,rfl,rfl,rfl,rfl,rfl,rfl,trivial⟩⟩,trivial⟩⟩,trivial⟩⟩,trivial⟩⟩,trivial⟩⟩⟩,⟨⟨⟨rfl,h1,h2,h3⟩,⟨callD_p en83 hmn ax rfl ⟨⟨⟨rfl,h1,h2,h3⟩,⟨⟨Or.inr ⟨_,.head _,rfl,rfl,⟨rfl,rfl,rfl,rfl,rfl,rfl,rfl,rfl,rfl,rfl,rfl,rfl,rfl,rfl,rfl,rfl,rfl,rfl,trivial⟩⟩,trivial⟩,trivial⟩⟩,⟨⟨⟨⟨rfl,h1,h2,h3⟩,⟨Or.inr ⟨_,.tail _ (.head _),bx5 rfl rfl (rz1 _ _) rfl (rz1 _ _),rfl,⟨rfl,rfl,rfl,rfl,rfl,rfl,rfl,rfl,rfl,rfl,rfl,rfl,rfl,rfl,rfl,rfl,rfl,rfl,trivial⟩⟩,trivial⟩⟩,trivial⟩,trivial⟩⟩,⟨⟨⟨rfl,h1,h2,h3⟩,⟨callD_p en83 hmn ax rfl ⟨⟨Or.inr ⟨_,.head _,rfl,rfl,⟨rfl,rfl,rfl,rfl,rfl,rfl,rfl,rfl,rfl,rfl,rfl,rfl,rfl,rfl,rfl,rfl,rfl,rfl,trivial⟩⟩,trivial⟩,trivial⟩,⟨⟨callD_p en83 hmn ax rfl ⟨Or.inr ⟨_,.head _,rfl,rfl,⟨rfl,rfl,rfl,rfl,rfl,rfl,rfl,rfl,rfl,rfl,rfl,rfl,rfl,rfl,rfl,rfl,rfl,rfl,trivial⟩⟩,trivial⟩,trivial⟩,trivial⟩⟩⟩,⟨⟨callD_p en83 hmn ax rfl ⟨⟨⟨rfl,h1,h2,h3⟩,⟨Or.inr ⟨_,.tail _ (.head _),bx5 rfl rfl (rz1 _ _) rfl (rz1 _ _),rfl,⟨rfl,rfl,rfl,rfl,rfl,rfl,rfl,rfl,rfl,rfl,rfl,rfl,rfl,rfl,rfl,rfl,rfl,rfl,trivial⟩⟩,trivial⟩⟩,trivial⟩,⟨⟨⟨rfl,h1,h2,h3⟩,⟨callD_p en83 hmn ax rfl ⟨Or.inr ⟨_,.tail _ (.head _),bx5 rfl rfl (rz1 _ _) rfl (rz1 _ _),rfl,⟨rfl,rfl,rfl,rfl,rfl,rfl,rfl,rfl,rfl,rfl,rfl,rfl,rfl,rfl,rfl,rfl,rfl,rfl,trivial⟩⟩,trivial⟩,trivial⟩⟩,trivial⟩⟩,trivial⟩⟩⟩⟩,⟨⟨⟨rfl,h1,h2,h3⟩,⟨callD_p en83 hmn ax rfl ⟨⟨⟨rfl,h1,h2,h3⟩,⟨⟨Or.inr ⟨_,.tail _ (.tail _ (.head _)),bx5 rfl rfl (rz1 _ _) (rz1 _ _) rfl,rfl,⟨rfl,rfl,rfl,rfl,rfl,rfl,rfl,rfl,rfl,rfl,rfl,rfl,rfl,rfl,rfl,rfl,rfl,rfl,trivial⟩⟩,trivial⟩,trivial⟩⟩,⟨⟨⟨⟨rfl,h1,h2,h3⟩,⟨Or.inr ⟨_,.tail _ (.tail _ (.tail _ (.head _))),bx5 rfl rfl (rz2 _ _ _) rfl (rz2 _ _ _),rfl,⟨rfl,rfl,rfl,rfl,rfl,rfl,rfl,rfl,rfl,rfl,rfl,rfl,rfl,rfl,rfl,rfl,rfl,rfl,trivial⟩⟩,trivial⟩⟩,trivial⟩,trivial⟩⟩,⟨⟨⟨rfl,h1,h2,h3⟩,⟨callD_p en83 hmn ax rfl ⟨⟨Or.inr ⟨_,.tail _ (.tail _ (.head _)),bx5 rfl rfl (rz1 _ _) (rz1 _ _) rfl,rfl,⟨rfl,rfl,rfl,rfl,rfl,rfl,rfl,rfl,rfl,rfl,rfl,rfl,rfl,rfl,rfl,rfl,rfl,rfl,trivial⟩⟩,trivial⟩,trivial⟩,⟨⟨callD_p en83 hmn ax rfl ⟨Or.inr ⟨_,.tail _ (.tail _ (.head _)),bx5 rfl rfl (rz1 _ _) (rz1 _ _) rfl,rfl,⟨rfl,rfl,rfl,rfl,rfl,rfl,rfl,rfl,rfl,rfl,rfl,rfl,rfl,rfl,rfl,rfl,rfl,rfl,trivial⟩⟩,trivial⟩,trivial⟩,trivial⟩⟩⟩,⟨⟨callD_p en83 hmn ax rfl ⟨⟨⟨rfl,h1,h2,h3⟩,⟨Or.inr ⟨_,.tail _ (.tail _ (.tail _ (.head _))),bx5 rfl rfl (rz2 _ _ _) rfl (rz2 _ _ _),rfl,⟨rfl,rfl,rfl,rfl,rfl,rfl,rfl,rfl,rfl,rfl,rfl,rfl,rfl,rfl,rfl,rfl,rfl,rfl,trivial⟩⟩,trivial⟩⟩,trivial⟩,⟨⟨⟨rfl,h1,h2,h3⟩,⟨callD_p en83 hmn ax rfl ⟨Or.inr ⟨_,.tail _ (.tail _ (.tail _ (.head _))),bx5 rfl rfl (rz2 _ _ _) rfl (rz2 _ _ _),rfl,⟨rfl,rfl,rfl,rfl,rfl,rfl,rfl,rfl,rfl,rfl,rfl,rfl,rfl,rfl,rfl,rfl,rfl,rfl,trivial⟩⟩,trivial⟩,trivial⟩⟩,trivial⟩⟩,trivial⟩⟩⟩⟩,⟨⟨callD_p en83 hmn ax rfl ⟨⟨⟨rfl,h1,h2,h3⟩,⟨⟨⟨rfl,h1,h2,h3⟩,⟨Or.inr ⟨_,.tail _ (.tail _ (.tail _ (.tail _ (.head _)))),bx5 rfl rfl rfl (rz2 _ _ _) (rz2 _ _ _),rfl,⟨rfl,rfl,rfl,rfl,rfl,rfl,rfl,rfl,rfl,rfl,rfl,rfl,rfl,rfl,rfl,rfl,rfl,rfl,trivial⟩⟩,trivial⟩⟩,trivial⟩⟩,⟨⟨⟨rfl,h1,h2,h3⟩,⟨⟨⟨rfl,h1,h2,h3⟩,⟨Or.inr ⟨_,.tail _ (.tail _ (.tail _ (.tail _ (.tail _ (.head _))))),bx5 rfl rfl rfl (rz1 _ _) (rz1 _ _),rfl,⟨rfl,rfl,rfl,rfl,rfl,rfl,rfl,rfl,rfl,rfl,rfl,rfl,rfl,rfl,rfl,rfl,rfl,rfl,trivial⟩⟩,trivial⟩⟩,trivial⟩⟩,trivial⟩⟩,⟨⟨⟨rfl,h1,h2,h3⟩,⟨callD_p en83 hmn ax rfl ⟨⟨⟨rfl,h1,h2,h3⟩,⟨Or.inr ⟨_,.tail _ (.tail _ (.tail _ (.tail _ (.head _)))),bx5 rfl rfl rfl (rz2 _ _ _) (rz2 _ _ _),rfl,⟨rfl,rfl,rfl,rfl,rfl,rfl,rfl,rfl,rfl,rfl,rfl,rfl,rfl,rfl,rfl,rfl,rfl,rfl,trivial⟩⟩,trivial⟩⟩,trivial⟩,⟨⟨⟨rfl,h1,h2,h3⟩,⟨callD_p en83 hmn ax rfl ⟨Or.inr ⟨_,.tail _ (.tail _ (.tail _ (.tail _ (.head _)))),bx5 rfl rfl rfl (rz2 _ _ _) (rz2 _ _ _),rfl,⟨rfl,rfl,rfl,rfl,rfl,rfl,rfl,rfl,rfl,rfl,rfl,rfl,rfl,rfl,rfl,rfl,rfl,rfl,trivial⟩⟩,trivial⟩,trivial⟩⟩,trivial⟩⟩⟩,⟨⟨⟨rfl,h1,h2,h3⟩,⟨callD_p en83 hmn ax rfl ⟨⟨⟨rfl,h1,h2,h3⟩,⟨Or.inr ⟨_,.tail _ (.tail _ (.tail _ (.tail _ (.tail _ (.head _))))),bx5 rfl rfl rfl (rz1 _ _) (rz1 _ _),rfl,⟨rfl,rfl,rfl,rfl,rfl,rfl,rfl,rfl,rfl,rfl,rfl,rfl,rfl,rfl,rfl,rfl,rfl,rfl,trivial⟩⟩,trivial⟩⟩,trivial⟩,⟨⟨⟨rfl,h1,h2,h3⟩,⟨callD_p en83 hmn ax rfl ⟨Or.inr ⟨_,.tail _ (.tail _ (.tail _ (.tail _ (.tail _ (.head _))))),bx5 rfl rfl rfl (rz1 _ _) (rz1 _ _),rfl,⟨rfl,rfl,rfl,rfl,rfl,rfl,rfl,rfl,rfl,rfl,rfl,rfl,rfl,rfl,rfl,rfl,rfl,rfl,trivial⟩⟩,trivial⟩,trivial⟩⟩,trivial⟩⟩⟩,trivial⟩⟩⟩,trivial⟩⟩⟩⟩,⟨⟨⟨rfl,h1,h2,h3⟩,⟨callD_p en82 hdp ax rfl ⟨callD_p en83 hmn ax rfl ⟨⟨⟨rfl,h1,h2,h3⟩,⟨⟨Or.inr ⟨_,.head _,rfl,rfl,⟨rfl,rfl,rfl,rfl,rfl,rfl,rfl,rfl,rfl,rfl,rfl,rfl,rfl,rfl,rfl,rfl,rfl,rfl,trivial⟩⟩,trivial⟩,trivial⟩⟩,⟨⟨⟨⟨rfl,h1,h2,h3⟩,⟨Or.inr ⟨_,.tail _ (.head _),bx5 rfl rfl (rz1 _ _) rfl (rz1 _ _),rfl,⟨rfl,rfl,rfl,rfl,rfl,rfl,rfl,rfl,rfl,rfl,rfl,rfl,rfl,rfl,rfl,rfl,rfl,rfl,trivial⟩⟩,trivial⟩⟩,trivial⟩,trivial⟩⟩,⟨⟨⟨rfl,h1,h2,h3⟩,⟨callD_p en83 hmn ax rfl ⟨⟨Or.inr ⟨_,.head _,rfl,rfl,⟨rfl,rfl,rfl,rfl,rfl,rfl,rfl,rfl,rfl,rfl,rfl,rfl,rfl,rfl,rfl,rfl,rfl,rfl,trivial⟩⟩,trivial⟩,trivial⟩,⟨⟨callD_p en83 hmn ax rfl ⟨Or.inr ⟨_,.head _,rfl,rfl,⟨rfl,rfl,rfl,rfl,rfl,rfl,rfl,rfl,rfl,rfl,rfl,rfl,rfl,rfl,rfl,rfl,rfl,rfl,trivial⟩⟩,trivial⟩,trivial⟩,trivial⟩⟩⟩,⟨⟨callD_p en83 hmn ax rfl ⟨⟨⟨rfl,h1,h2,h3⟩,⟨Or.inr ⟨_,.tail _ (.head _),bx5 rfl rfl (rz1 _ _) rfl (rz1 _ _),rfl,⟨rfl,rfl,rfl,rfl,rfl,rfl,rfl,rfl,rfl,rfl,rfl,rfl,rfl,rfl,rfl,rfl,rfl,rfl,trivial⟩⟩,trivial⟩⟩,trivial⟩,⟨⟨⟨rfl,h1,h2,h3⟩,⟨callD_p en83 hmn ax rfl ⟨Or.inr ⟨_,.tail _ (.head _),bx5 rfl rfl (rz1 _ _) rfl (rz1 _ _),rfl,⟨rfl,rfl,rfl,rfl,rfl,rfl,rfl,rfl,rfl,rfl,rfl,rfl,rfl,rfl,rfl,rfl,rfl,rfl,trivial⟩⟩,trivial⟩,trivial⟩⟩,trivial⟩⟩,trivial⟩⟩⟩,⟨⟨⟨rfl,h1,h2,h3⟩,⟨callD_p en82 hdp ax rfl ⟨callD_p en83 hmn ax rfl ⟨⟨Or.inr ⟨_,.head _,rfl,rfl,⟨rfl,rfl,rfl,rfl,rfl,rfl,rfl,rfl,rfl,rfl,rfl,rfl,rfl,rfl,rfl,rfl,rfl,rfl,trivial⟩⟩,trivial⟩,trivial⟩,⟨⟨callD_p en83 hmn ax rfl ⟨Or.inr ⟨_,.head _,rfl,rfl,⟨rfl,rfl,rfl,rfl,rfl,rfl,rfl,rfl,rfl,rfl,rfl,rfl,rfl,rfl,rfl,rfl,rfl,rfl,trivial⟩⟩,trivial⟩,trivial⟩,trivial⟩⟩,⟨⟨callD_p en82 hdp ax rfl ⟨callD_p en83 hmn ax rfl ⟨Or.inr ⟨_,.head _,rfl,rfl,⟨rfl,rfl,rfl,rfl,rfl,rfl,rfl,rfl,rfl,rfl,rfl,rfl,rfl,rfl,rfl,rfl,rfl,rfl,trivial⟩⟩,trivial⟩,trivial⟩,trivial⟩,trivial⟩⟩⟩,⟨⟨callD_p en82 hdp ax rfl ⟨callD_p en83 hmn ax rfl ⟨⟨⟨rfl,h1,h2,h3⟩,⟨Or.inr ⟨_,.tail _ (.head _),bx5 rfl rfl (rz1 _ _) rfl (rz1 _ _),rfl,⟨rfl,rfl,rfl,rfl,rfl,rfl,rfl,rfl,rfl,rfl,rfl,rfl,rfl,rfl,rfl,rfl,rfl,rfl,trivial⟩⟩,trivial⟩⟩,trivial⟩,⟨⟨⟨rfl,h1,h2,h3⟩,⟨callD_p en83 hmn ax rfl ⟨Or.inr ⟨_,.tail _ (.head _),bx5 rfl rfl (rz1 _ _) rfl (rz1 _ _),rfl,⟨rfl,rfl,rfl,rfl,rfl,rfl,rfl,rfl,rfl,rfl,rfl,rfl,rfl,rfl,rfl,rfl,rfl,rfl,trivial⟩⟩,trivial⟩,trivial⟩⟩,trivial⟩⟩,⟨⟨⟨rfl,h1,h2,h3⟩,⟨callD_p en82 hdp ax rfl ⟨callD_p en83 hmn ax rfl ⟨Or.inr ⟨_,.tail _ (.head _),bx5 rfl rfl (rz1 _ _) rfl (rz1 _ _),rfl,⟨rfl,rfl,rfl,rfl,rfl,rfl,rfl,rfl,rfl,rfl,rfl,rfl,rfl,rfl,rfl,rfl,rfl,rfl,trivial⟩⟩,trivial⟩,trivial⟩,trivial⟩⟩,trivial⟩⟩,trivial⟩⟩⟩⟩,⟨⟨⟨rfl,h1,h2,h3⟩,⟨callD_p en82 hdp ax rfl ⟨callD_p en83 hmn ax rfl ⟨⟨⟨rfl,h1,h2,h3⟩,⟨⟨Or.inr ⟨_,.tail _ (.tail _ (.head _)),bx5 rfl rfl (rz1 _ _) (rz1 _ _) rfl,rfl,⟨rfl,rfl,rfl,rfl,rfl,rfl,rfl,rfl,rfl,rfl,rfl,rfl,rfl,rfl,rfl,rfl,rfl,rfl,trivial⟩⟩,trivial⟩,trivial⟩⟩,⟨⟨⟨⟨rfl,h1,h2,h3⟩,⟨Or.inr ⟨_,.tail _ (.tail _ (.tail _ (.head _))),bx5 rfl rfl (rz2 _ _ _) rfl (rz2 _ _ _),rfl,⟨rfl,rfl,rfl,rfl,rfl,rfl,rfl,rfl,rfl,rfl,rfl,rfl,rfl,rfl,rfl,rfl,rfl,rfl,trivial⟩⟩,trivial⟩⟩,trivial⟩,trivial⟩⟩,⟨⟨⟨rfl,h1,h2,h3⟩,⟨callD_p en83 hmn ax rfl ⟨⟨Or.inr ⟨_,.tail _ (.tail _ (.head _)),bx5 rfl rfl (rz1 _ _) (rz1 _ _) rfl,rfl,⟨rfl,rfl,rfl,rfl,rfl,rfl,rfl,rfl,rfl,rfl,rfl,rfl,rfl,rfl,rfl,rfl,rfl,rfl,trivial⟩⟩,trivial⟩,trivial⟩,⟨⟨callD_p en83 hmn ax rfl ⟨Or.inr ⟨_,.tail _ (.tail _ (.head _)),bx5 rfl rfl (rz1 _ _) (rz1 _ _) rfl,rfl,⟨rfl,rfl,rfl,rfl,rfl,rfl,rfl,rfl,rfl,rfl,rfl,rfl,rfl,rfl,rfl,rfl,rfl,rfl,trivial⟩⟩,trivial⟩,trivial⟩,trivial⟩⟩⟩,⟨⟨callD_p en83 hmn ax rfl ⟨⟨⟨rfl,h1,h2,h3⟩,⟨Or.inr ⟨_,.tail _ (.tail _ (.tail _ (.head _))),bx5 rfl rfl (rz2 _ _ _) rfl (rz2 _ _ _),rfl,⟨rfl,rfl,rfl,rfl,rfl,rfl,rfl,rfl,rfl,rfl,rfl,rfl,rfl,rfl,rfl,rfl,rfl,rfl,trivial⟩⟩,trivial⟩⟩,trivial⟩,⟨⟨⟨rfl,h1,h2,h3⟩,⟨callD_p en83 hmn ax rfl ⟨Or.inr ⟨_,.tail _ (.tail _ (.tail _ (.head _))),bx5 rfl rfl (rz2 _ _ _) rfl (rz2 _ _ _),rfl,⟨rfl,rfl,rfl,rfl,rfl,rfl,rfl,rfl,rfl,rfl,rfl,rfl,rfl,rfl,rfl,rfl,rfl,rfl,trivial⟩⟩,trivial⟩,trivial⟩⟩,trivial⟩⟩,trivial⟩⟩⟩,⟨⟨⟨rfl,h1,h2,h3⟩,⟨callD_p en82 hdp ax rfl ⟨callD_p en83 hmn ax rfl ⟨⟨Or.inr ⟨_,.tail _ (.tail _ (.head _)),bx5 rfl rfl (rz1 _ _) (rz1 _ _) rfl,rfl,⟨rfl,rfl,rfl,rfl,rfl,rfl,rfl,rfl,rfl,rfl,rfl,rfl,rfl,rfl,rfl,rfl,rfl,rfl,trivial⟩⟩,trivial⟩,trivial⟩,⟨⟨callD_p en83 hmn ax rfl ⟨Or.inr ⟨_,.tail _ (.tail _ (.head _)),bx5 rfl rfl (rz1 _ _) (rz1 _ _) rfl,rfl,⟨rfl,rfl,rfl,rfl,rfl,rfl,rfl,rfl,rfl,rfl,rfl,rfl,rfl,rfl,rfl,rfl,rfl,rfl,trivial⟩⟩,trivial⟩,trivial⟩,trivial⟩⟩,⟨⟨callD_p en82 hdp ax rfl ⟨callD_p en83 hmn ax rfl ⟨Or.inr ⟨_,.tail _ (.tail _ (.head _)),bx5 rfl rfl (rz1 _ _) (rz1 _ _) rfl,rfl,⟨rfl,rfl,rfl,rfl,rfl,rfl,rfl,rfl,rfl,rfl,rfl,rfl,rfl,rfl,rfl,rfl,rfl,rfl,trivial⟩⟩,trivial⟩,trivial⟩,trivial⟩,trivial⟩⟩⟩,⟨⟨callD_p en82 hdp ax rfl ⟨callD_p en83 hmn ax rfl ⟨⟨⟨rfl,h1,h2,h3⟩,⟨Or.inr ⟨_,.tail _ (.tail _ (.tail _ (.head _))),bx5 rfl rfl (rz2 _ _ _) rfl (rz2 _ _ _),rfl,⟨rfl,rfl,rfl,rfl,rfl,rfl,rfl,rfl,rfl,rfl,rfl,rfl,rfl,rfl,rfl,rfl,rfl,rfl,trivial⟩⟩,trivial⟩⟩,trivial⟩,⟨⟨⟨rfl,h1,h2,h3⟩,⟨callD_p en83 hmn ax rfl ⟨Or.inr ⟨_,.tail _ (.tail _ (.tail _ (.head _))),bx5 rfl rfl (rz2 _ _ _) rfl (rz2 _ _ _),rfl,⟨rfl,rfl,rfl,rfl,rfl,rfl,rfl,rfl,rfl,rfl,rfl,rfl,rfl,rfl,rfl,rfl,rfl,rfl,trivial⟩⟩,trivial⟩,trivial⟩⟩,trivial⟩⟩,⟨⟨⟨rfl,h1,h2,h3⟩,⟨callD_p en82 hdp ax rfl ⟨callD_p en83 hmn ax rfl ⟨Or.inr ⟨_,.tail _ (.tail _ (.tail _ (.head _))),bx5 rfl rfl (rz2 _ _ _) rfl (rz2 _ _ _),rfl,⟨rfl,rfl,rfl,rfl,rfl,rfl,rfl,rfl,rfl,rfl,rfl,rfl,rfl,rfl,rfl,rfl,rfl,rfl,trivial⟩⟩,trivial⟩,trivial⟩,trivial⟩⟩,trivial⟩⟩,trivial⟩⟩⟩⟩,⟨⟨callD_p en82 hdp ax rfl ⟨callD_p en83 hmn ax rfl ⟨⟨⟨rfl,h1,h2,h3⟩,⟨⟨⟨rfl,h1,h2,h3⟩,⟨Or.inr ⟨_,.tail _ (.tail _ (.tail _ (.tail _ (.head _)))),bx5 rfl rfl rfl (rz2 _ _ _) (rz2 _ _ _),rfl,⟨rfl,rfl,rfl,rfl,rfl,rfl,rfl,rfl,rfl,rfl,rfl,rfl,rfl,rfl,rfl,rfl,rfl,rfl,trivial⟩⟩,trivial⟩⟩,trivial⟩⟩,⟨⟨⟨rfl,h1,h2,h3⟩,⟨⟨⟨rfl,h1,h2,h3⟩,⟨Or.inr ⟨_,.tail _ (.tail _ (.tail _ (.tail _ (.tail _ (.head _))))),bx5 rfl rfl rfl (rz1 _ _) (rz1 _ _),rfl,⟨rfl,rfl,rfl,rfl,rfl,rfl,rfl,rfl,rfl,rfl,rfl,rfl,rfl,rfl,rfl,rfl,rfl,rfl,trivial⟩⟩,trivial⟩⟩,trivial⟩⟩,trivial⟩⟩,⟨⟨⟨rfl,h1,h2,h3⟩,⟨callD_p en83 hmn ax rfl ⟨⟨⟨rfl,h1,h2,h3⟩,⟨Or.inr ⟨_,.tail _ (.tail _ (.tail _ (.tail _ (.head _)))),bx5 rfl rfl rfl (rz2 _ _ _) (rz2 _ _ _),rfl,⟨rfl,rfl,rfl,rfl,rfl,rfl,rfl,rfl,rfl,rfl,rfl,rfl,rfl,rfl,rfl,rfl,rfl,rfl,trivial⟩⟩,trivial⟩⟩,trivial⟩,⟨⟨⟨rfl,h1,h2,h3⟩,⟨callD_p en83 hmn ax rfl ⟨Or.inr ⟨_,.tail _ (.tail _ (.tail _ (.tail _ (.head _)))),bx5 rfl rfl rfl (rz2 _ _ _) (rz2 _ _ _),rfl,⟨rfl,rfl,rfl,rfl,rfl,rfl,rfl,rfl,rfl,rfl,rfl,rfl,rfl,rfl,rfl,rfl,rfl,rfl,trivial⟩⟩,trivial⟩,trivial⟩⟩,trivial⟩⟩⟩,⟨⟨⟨rfl,h1,h2,h3⟩,⟨callD_p en83 hmn ax rfl ⟨⟨⟨rfl,h1,h2,h3⟩,⟨Or.inr ⟨_,.tail _ (.tail _ (.tail _ (.tail _ (.tail _ (.head _))))),bx5 rfl rfl rfl (rz1 _ _) (rz1 _ _),rfl,⟨rfl,rfl,rfl,rfl,rfl,rfl,rfl,rfl,rfl,rfl,rfl,rfl,rfl,rfl,rfl,rfl,rfl,rfl,trivial⟩⟩,trivial⟩⟩,trivial⟩,⟨⟨⟨rfl,h1,h2,h3⟩,⟨callD_p en83 hmn ax rfl ⟨Or.inr ⟨_,.tail _ (.tail _ (.tail _ (.tail _ (.tail _ (.head _))))),bx5 rfl rfl rfl (rz1 _ _) (rz1 _ _),rfl,⟨rfl,rfl,rfl,rfl,rfl,rfl,rfl,rfl,rfl,rfl,rfl,rfl,rfl,rfl,rfl,rfl,rfl,rfl,trivial⟩⟩,trivial⟩,trivial⟩⟩,trivial⟩⟩⟩,trivial⟩⟩⟩,⟨⟨⟨rfl,h1,h2,h3⟩,⟨callD_p en82 hdp ax rfl ⟨callD_p en83 hmn ax rfl ⟨⟨⟨rfl,h1,h2,h3⟩,⟨Or.inr ⟨_,.tail _ (.tail _ (.tail _ (.tail _ (.head _)))),bx5 rfl rfl rfl (rz2 _ _ _) (rz2 _ _ _),rfl,⟨rfl,rfl,rfl,rfl,rfl,rfl,rfl,rfl,rfl,rfl,rfl,rfl,rfl,rfl,rfl,rfl,rfl,rfl,trivial⟩⟩,trivial⟩⟩,trivial⟩,⟨⟨⟨rfl,h1,h2,h3⟩,⟨callD_p en83 hmn ax rfl ⟨Or.inr ⟨_,.tail _ (.tail _ (.tail _ (.tail _ (.head _)))),bx5 rfl rfl rfl (rz2 _ _ _) (rz2 _ _ _),rfl,⟨rfl,rfl,rfl,rfl,rfl,rfl,rfl,rfl,rfl,rfl,rfl,rfl,rfl,rfl,rfl,rfl,rfl,rfl,trivial⟩⟩,trivial⟩,trivial⟩⟩,trivial⟩⟩,⟨⟨⟨rfl,h1,h2,h3⟩,⟨callD_p en82 hdp ax rfl ⟨callD_p en83 hmn ax rfl ⟨Or.inr ⟨_,.tail _ (.tail _ (.tail _ (.tail _ (.head _)))),bx5 rfl rfl rfl (rz2 _ _ _) (rz2 _ _ _),rfl,⟨rfl,rfl,rfl,rfl,rfl,rfl,rfl,rfl,rfl,rfl,rfl,rfl,rfl,rfl,rfl,rfl,rfl,rfl,trivial⟩⟩,trivial⟩,trivial⟩,trivial⟩⟩,trivial⟩⟩⟩,⟨⟨⟨rfl,h1,h2,h3⟩,⟨callD_p en82 hdp ax rfl ⟨callD_p en83 hmn ax rfl ⟨⟨⟨rfl,h1,h2,h3⟩,⟨Or.inr ⟨_,.tail _ (.tail _ (.tail _ (.tail _ (.tail _ (.head _))))),bx5 rfl rfl rfl (rz1 _ _) (rz1 _ _),rfl,⟨rfl,rfl,rfl,rfl,rfl,rfl,rfl,rfl,rfl,rfl,rfl,rfl,rfl,rfl,rfl,rfl,rfl,rfl,trivial⟩⟩,trivial⟩⟩,trivial⟩,⟨⟨⟨rfl,h1,h2,h3⟩,⟨callD_p en83 hmn ax rfl ⟨Or.inr ⟨_,.tail _ (.tail _ (.tail _ (.tail _ (.tail _ (.head _))))),bx5 rfl rfl rfl (rz1 _ _) (rz1 _ _),rfl,⟨rfl,rfl,rfl,rfl,rfl,rfl,rfl,rfl,rfl,rfl,rfl,rfl,rfl,rfl,rfl,rfl,rfl,rfl,trivial⟩⟩,trivial⟩,trivial⟩⟩,trivial⟩⟩,⟨⟨⟨rfl,h1,h2,h3⟩,⟨callD_p en82 hdp ax rfl ⟨callD_p en83 hmn ax rfl ⟨Or.inr ⟨_,.tail _ (.tail _ (.tail _ (.tail _ (.tail _ (.head _))))),bx5 rfl rfl rfl (rz1 _ _) (rz1 _ _),rfl,⟨rfl,rfl,rfl,rfl,rfl,rfl,rfl,rfl,rfl,rfl,rfl,rfl,rfl,rfl,rfl,rfl,rfl,rfl,trivial⟩⟩,trivial⟩,trivial⟩,trivial⟩⟩,trivial⟩⟩⟩,trivial⟩⟩⟩,trivial⟩⟩⟩⟩
 ·exact (rfl:_=_)
 have hrep:(List.replicate ((dNds ND).length:Int).toNat (vL [Value.int .i64 0])).flatten=cN (szR ND D 0):=by rw [repN,Int.toNat_natCast,hdl];all_goals rfl
 have hrep2:(List.replicate ((dNds ND).length:Int).toNat (vL [Value.int .i64 0])).flatten=cN (List.replicate ND.length 0):=by rw [repN,Int.toNat_natCast,hdl]
 refine loop_i (fun j st=>∃ d:Nat,st=mw1St a b A B ND z D M d (szR ND D (d - 1)) (List.replicate ND.length 0)/\1<=d/\d<=ND.length + 1/\j=ND.length + 1 - d) ND.length (mw1St a b A B ND z D M 1 (szR ND D 0) (List.replicate ND.length 0)) (weak_b 5 rfl (by repeat' (first | exact rfl | exact we_rfl rfl | exact weL_cN hrep | exact weL_cN hrep2 | refine ⟨_,_,rfl,?_,?_⟩)) rfl rfl rfl (by repeat' (first | exact trivial | exact we_rfl rfl | exact weL_cN hrep | exact weL_cN hrep2 | refine ⟨⟨_,rfl,?_⟩,?_⟩))) ⟨1,rfl,by omega,by omega,by omega⟩ ?_;rintro j st ⟨d,rfl,hd1,hd2,rfl⟩;refine br (fun hL=>?_) (fun hL=>?_)
 ·have hdN:d<=ND.length:=by have:=hL;simp [hdl] at this;exact this
  refine loop_i (fun j st=>∃ e:Nat,st=mw2St a b A B ND z D M d (szL ND D d e (szR ND D (d - 1))) (List.replicate ND.length 0) e/\e<=ND.length/\j=ND.length - e) ND.length (mw2St a b A B ND z D M d (szL ND D d 0 (szR ND D (d - 1))) (List.replicate ND.length 0) 0) (weak_b 5 rfl (by repeat' (first | exact rfl | exact we_rfl rfl | exact weL_cN rfl | refine ⟨_,_,rfl,?_,?_⟩)) rfl rfl rfl (by repeat' (first | exact trivial | exact we_rfl rfl | exact weL_cN rfl | refine ⟨⟨_,rfl,?_⟩,?_⟩))) ⟨0,rfl,by omega,by omega⟩ ?_;rintro j st ⟨e,rfl,he,rfl⟩;refine br (fun hL2=>?_) (fun hL2=>?_)
  ·have hlt:e < ND.length:=by have:=hL2;simp [dNds_len] at this;exact this
   obtain ⟨n,hn⟩:∃ n,ND[e]? = some n:=⟨_,gE hlt⟩;obtain ⟨v,hv⟩:∃ z,D[e]? = some z:=⟨_,gE (by omega)⟩;have hvd:D.getD e 0=v:=by rw [List.getD_eq_getElem?_getD,hv];all_goals rfl
   have hnx:szL ND D d (e + 1) (szR ND D (d - 1))=if D.getD e 0=d then (szL ND D d e (szR ND D (d - 1))).set e (sizeF (szL ND D d e (szR ND D (d - 1))) D n) else szL ND D d e (szR ND D (d - 1)):=by rw [szL,hn]
   have hql:(szL ND D d e (szR ND D (d - 1))).length=ND.length:=by rw [szL_len];exact szR_len ND D _
   have hqs:∀ z∈szL ND D d e (szR ND D (d - 1)),z<=4097:=by
    have:=szQ_small ND D d e;unfold szQ at this
    rwa [if_neg (by omega)] at this
   have hnm:=mG hn;have hfs:=fun h8=>size26_spec a b A B ND z D M (szL ND D d e (szR ND D (d - 1))) (List.replicate ND.length 0) hlD hql hqs (hok n hnm) (hsz n hnm) h8
   have h8:D.getD e 0=d->n.kind=8->∃ c e,chooseF D n.edges=some c/\n.edges[c]? = some e:=fun h h8=>by
    obtain ⟨c,x,hc,hx,_⟩:=hO.uni hn (by omega) h8;exact ⟨c,x,hc,hx⟩
   generalize szL ND D d e (szR ND D (d - 1))=t at hnx hql hqs hfs;refine ⟨_,⟨Int.natCast_nonneg _,dInts_get hv⟩,?_⟩;refine br (fun c=>?_) (fun c=>?_)
   ·have c:D.getD e 0=d:=Decidable.byContradiction fun h=>by simp at c;omega
    rw [if_pos c] at hnx;have hfs:=hfs (h8 c);refine drawG_s mo (by decide +kernel) ?_;refine ⟨_,⟨Int.natCast_nonneg _,dNds_get hn⟩,?_⟩;refine callD_b en84 hfs ⟨_,_,rfl,⟨_,rfl,mw_cc a b A B ND z hql List.length_replicate rfl rfl⟩,_,_,rfl,ax,rfl⟩ rfl rfl ?_;refine ⟨⟨by omega,by rw [hdl];omega⟩,?_⟩;refine ⟨by rw [cN_len];omega,?_⟩
    have hst:(cN t).set (0 + (e:Int).toNat * 1) (DV.v (.int .i64 (sizeF t D n:Nat)))=cN (szL ND D d (e + 1) (szR ND D (d - 1))):=by
     rw [show 0 + (e:Int).toNat * 1=e by omega,cN_set,hnx]
    exact ⟨mw2St a b A B ND z D M d (szL ND D d (e + 1) (szR ND D (d - 1))) (List.replicate ND.length 0) (e + 1),(weak_b 5 rfl (by repeat' (first | exact rfl | exact we_rfl rfl | exact weL_cN hst | exact weL_cN rfl | exact we_int (nxt hlt (by omega)) | refine ⟨_,_,rfl,?_,?_⟩)) rfl rfl rfl (by repeat' (first | exact trivial | exact we_rfl rfl | exact weL_cN hst | exact weL_cN rfl | exact we_int (nxt hlt (by omega)) | refine ⟨⟨_,rfl,?_⟩,?_⟩))),ND.length - (e + 1),by omega,e + 1,rfl,by omega,rfl⟩
   ·have c:¬ D.getD e 0=d:=fun h=>by rw [hvd] at h;subst h;simp at c
    rw [if_neg c] at hnx;exact ⟨mw2St a b A B ND z D M d (szL ND D d (e + 1) (szR ND D (d - 1))) (List.replicate ND.length 0) (e + 1),(weak_b 5 rfl (by repeat' (first | exact rfl | exact we_rfl rfl | exact weL_cN (congrArg cN hnx.symm) | exact weL_cN rfl | exact we_int (nxt hlt (by omega)) | refine ⟨_,_,rfl,?_,?_⟩)) rfl rfl rfl (by repeat' (first | exact trivial | exact we_rfl rfl | exact weL_cN (congrArg cN hnx.symm) | exact weL_cN rfl | exact we_int (nxt hlt (by omega)) | refine ⟨⟨_,rfl,?_⟩,?_⟩))),ND.length - (e + 1),by omega,e + 1,rfl,by omega,rfl⟩
  ·have hge:e=ND.length:=by have:=hL2;simp [dNds_len] at this;omega
   subst hge;obtain ⟨k,rfl⟩:∃ k,d=k + 1:=⟨d - 1,by omega⟩;exact ⟨mw1St a b A B ND z D M (k + 1 + 1) (szR ND D (k + 1 + 1 - 1)) (List.replicate ND.length 0),(weak_b 5 rfl (by repeat' (first | exact rfl | exact we_rfl rfl | exact weL_cN rfl | exact we_int (wrapN (a:=k + 1) (b:=1) (by omega) (by omega)) | refine ⟨_,_,rfl,?_,?_⟩)) rfl rfl rfl (by repeat' (first | exact trivial | exact we_rfl rfl | exact weL_cN rfl | exact we_int (wrapN (a:=k + 1) (b:=1) (by omega) (by omega)) | refine ⟨⟨_,rfl,?_⟩,?_⟩))),ND.length + 1 - (k + 1 + 1),by omega,k + 1 + 1,rfl,by omega,by omega,rfl⟩
 ·have hde:d=ND.length + 1:=by have:=hL;simp [hdl] at this;omega
  subst hde;have hT:szR ND D (ND.length + 1 - 1)=szT ND D:=rfl;have hTl:=szT_len ND D;have hTs:∀ z∈szT ND D,z<=4097:=szR_small ND D _;have hlK:(sevS ND D).length=ND.length:=sevN_len ND D _;generalize sevS ND D=K at hKM hsec hR hlK;have hks:=othK_small (szT ND D) D K ND;have hkf:∀ i n,ND[i]? = some n->othK (szT ND D) D K ND i=if K.getD i false=true then some (othS (szT ND D) D K n) else none:=fun i n h=>by unfold othK;rw [h]
  have hF:otT (szT ND D) D K ND=otR (othK (szT ND D) D K ND) ND.length (ND.length + 1):=otR_end.symm;rw [hF] at hR;rw [hT];generalize szT ND D=t at hTl hTs hks hkf hR ⊢;generalize hkd:othK t D K ND=kf at hks hkf hR;refine loop_i (fun j st=>∃ d:Nat,st=mw3St a b A B ND z D M d t (otR kf ND.length d)/\d<=ND.length + 1/\j=ND.length + 1 - d) (ND.length + 1) (mw3St a b A B ND z D M 0 t (otR kf ND.length 0)) (weak_b 5 rfl (by repeat' (first | exact rfl | exact we_rfl rfl | exact weL_cN rfl | refine ⟨_,_,rfl,?_,?_⟩)) rfl rfl rfl (by repeat' (first | exact trivial | exact we_rfl rfl | exact weL_cN rfl | refine ⟨⟨_,rfl,?_⟩,?_⟩))) ⟨0,rfl,by omega,by omega⟩ ?_;rintro j st ⟨d,rfl,hd2,rfl⟩;have hok2:OtOK kf (otR kf ND.length d):=otR_ok d;have hrl:(otR kf ND.length d).length=ND.length:=otR_len d;refine br (fun hL=>?_) (fun hL=>?_)
  ·have hdN:d<=ND.length:=by have:=hL;simp [hdl] at this;exact this
   refine loop_i (fun j st=>∃ e:Nat,st=mw4St a b A B ND z D M d t (otL kf e (otR kf ND.length d)) e/\e<=ND.length/\j=ND.length - e) ND.length (mw4St a b A B ND z D M d t (otL kf 0 (otR kf ND.length d)) 0) (weak_b 5 rfl (by repeat' (first | exact rfl | exact we_rfl rfl | exact weL_cN rfl | refine ⟨_,_,rfl,?_,?_⟩)) rfl rfl rfl (by repeat' (first | exact trivial | exact we_rfl rfl | exact weL_cN rfl | refine ⟨⟨_,rfl,?_⟩,?_⟩))) ⟨0,rfl,by omega,by omega⟩ ?_;rintro j st ⟨e,rfl,he,rfl⟩;refine br (fun hL2=>?_) (fun hL2=>?_)
   ·have hlt:e < ND.length:=by have:=hL2;simp [dNds_len] at this;exact this
    obtain ⟨n,hn⟩:∃ n,ND[e]? = some n:=⟨_,gE hlt⟩;obtain ⟨v,hv⟩:∃ z,M[e]? = some z:=⟨_,gE (by omega)⟩;have hnm:=mG hn;have hKe:K.getD e false=decide (1 < v):=by rw [hKM,List.getD_eq_getElem?_getD,hv];all_goals rfl
    have hk:=hkf e n hn;have hse:=hsec e n hn;have hol:(otL kf e (otR kf ND.length d)).length=ND.length:=by rw [otL_len];exact hrl
    have hos:=ot_small hks (otL_ok (kf:=kf) e (by rw [hrl];omega) hok2).1;have hnx:otL kf (e + 1) (otR kf ND.length d)=otI kf e (otL kf e (otR kf ND.length d)):=rfl;have hot:=fun hc8 hS=>other26_spec a b A B ND z D M t (otL kf e (otR kf ND.length d)) K hlD hlM (fun j _=>hKM j) hTl hol hTs hos (hok n hnm) (hsz n hnm) hc8 hS;generalize otL kf e (otR kf ND.length d)=o at hol hos hnx hot;refine ⟨_,⟨Int.natCast_nonneg _,dInts_get hv⟩,?_⟩;refine br (fun c=>?_) (fun c=>?_)
    ·have c:(1:Int) < v:=by simpa using c
     rw [decide_eq_true (by omega)] at hKe;obtain ⟨hS,hp⟩:=hse hKe;rw [if_pos hKe] at hk;have hot:=hot (fun h8=>by obtain ⟨c,_,hc,_⟩:=hO.uni hn hp h8;exact ⟨c,hc⟩) hS;refine drawG_s mo (by decide +kernel) ?_;refine ⟨_,⟨Int.natCast_nonneg _,dNds_get hn⟩,?_⟩;refine callD_b en85 hot ⟨_,_,rfl,⟨_,rfl,mw_cc a b A B ND z hTl hol rfl rfl⟩,_,_,rfl,ax,rfl⟩ rfl rfl ?_;refine ⟨⟨by omega,by rw [hdl];omega⟩,?_⟩;refine ⟨by rw [cN_len];omega,?_⟩
     have hst:(cN o).set (0 + (e:Int).toNat * 1) (DV.v (.int .i64 (othE o (othS t D K n):Nat)))=cN (otL kf (e + 1) (otR kf ND.length d)):=by
      rw [show 0 + (e:Int).toNat * 1=e by omega,cN_set,hnx];unfold otI;rw [hk]
     exact ⟨mw4St a b A B ND z D M d t (otL kf (e + 1) (otR kf ND.length d)) (e + 1),(weak_b 5 rfl (by repeat' (first | exact rfl | exact we_rfl rfl | exact weL_cN rfl | exact weL_cN hst | exact we_int (nxt hlt (by omega)) | refine ⟨_,_,rfl,?_,?_⟩)) rfl rfl rfl (by repeat' (first | exact trivial | exact we_rfl rfl | exact weL_cN rfl | exact weL_cN hst | exact we_int (nxt hlt (by omega)) | refine ⟨⟨_,rfl,?_⟩,?_⟩))),ND.length - (e + 1),by omega,e + 1,rfl,by omega,rfl⟩
    ·have c:¬ (1:Int) < v:=by simpa using c
     rw [decide_eq_false (by omega)] at hKe;rw [hKe,if_neg (by simp)] at hk;have hsk:o=otL kf (e + 1) (otR kf ND.length d):=by rw [hnx];unfold otI;rw [hk]
     exact ⟨mw4St a b A B ND z D M d t (otL kf (e + 1) (otR kf ND.length d)) (e + 1),(weak_b 5 rfl (by repeat' (first | exact rfl | exact we_rfl rfl | exact weL_cN rfl | exact weL_cN (congrArg cN hsk) | exact we_int (nxt hlt (by omega)) | refine ⟨_,_,rfl,?_,?_⟩)) rfl rfl rfl (by repeat' (first | exact trivial | exact we_rfl rfl | exact weL_cN rfl | exact weL_cN (congrArg cN hsk) | exact we_int (nxt hlt (by omega)) | refine ⟨⟨_,rfl,?_⟩,?_⟩))),ND.length - (e + 1),by omega,e + 1,rfl,by omega,rfl⟩
   ·have hge:e=ND.length:=by have:=hL2;simp [dNds_len] at this;omega
    subst hge;exact ⟨mw3St a b A B ND z D M (d + 1) t (otR kf ND.length (d + 1)),(weak_b 5 rfl (by repeat' (first | exact rfl | exact we_rfl rfl | exact weL_cN rfl | exact we_int (wrapN (a:=d) (b:=1) (by omega) (by omega)) | refine ⟨_,_,rfl,?_,?_⟩)) rfl rfl rfl (by repeat' (first | exact trivial | exact we_rfl rfl | exact weL_cN rfl | exact we_int (wrapN (a:=d) (b:=1) (by omega) (by omega)) | refine ⟨⟨_,rfl,?_⟩,?_⟩))),ND.length + 1 - (d + 1),by omega,d + 1,rfl,by omega,rfl⟩
  ·have hde:d=ND.length + 1:=by have:=hL;simp [hdl] at this;omega
   subst hde;rw [<- hR];exact ⟨.agg (w26 a b A B ND z D M t (otR kf ND.length (ND.length + 1))),⟨_,rfl,mw_cc a b A B ND z hTl hrl rfl rfl⟩,rfl⟩
end
end Go.Proofs.YtadbccicdbopcaaGreat
namespace Go.Proofs.YtadbccicdbopcaaGreat
namespace Dv
open Go Go.RowKit
mutual
def shD (m:Nat):DV->DV
 | .agg l=>.agg (shL m l)
 | .tup l=>.tup (shL m l)
 | .sl e es tk=>.sl e es (match tk with | some k=>some (m + k) | none=>none)
 | .fn f a b=>.fn f (shL m a) (shL m b)
 | .ifc t x=>.ifc t (shD m x)
 | .v x=>.v x
 | .ud=>.ud
 | .pt cs o=>.pt cs o
 | .loc i o=>.loc i o
 | .el i o=>.el i o
 | .ms i e o l c=>.ms i e o l c
def shL (m:Nat):List DV->List DV
 | []=>[]
 | d :: r=>shD m d :: shL m r
end
mutual
theorem shD_sound {m:Nat} {E2 E:En} (hβ:E2.β=[]) (hc:E.c=E2.c) (ht:∀ (k:Nat) q,E2.tk[k]? = some q->E.tk[m + k]? = some q/\E.τ[m + k]? = E2.τ[k]?):∀ {d:DV} {v:Value},Rv E2 d v->Rv E (shD m d) v
 | .v x,v,h=>by simpa only [Rv,shD] using h
 | .ud,v,h=>by simpa only [Rv,shD] using h
 | .agg l,v,h=>by
  simp only [Rv,shD] at h ⊢;obtain ⟨vs,h1,h2,h3⟩:=h;exact ⟨vs,h1,shL_sound hβ hc ht h2,h3⟩
 | .tup l,v,h=>by
  simp only [Rv,shD] at h ⊢;obtain ⟨vs,h1,h2⟩:=h;exact ⟨vs,h1,shL_sound hβ hc ht h2⟩
 | .sl e es tk,v,h=>by
  have he:E.cl=E2.cl:=by simp [En.cl,hc]
  simp only [Rv,shD] at h ⊢;obtain ⟨b,n,cap,h1,h2,h3,h4⟩:=h;refine ⟨b,n,cap,h1,h2,fun hn=>⟨(h3 hn).1,by rw [he];exact (h3 hn).2⟩,?_⟩;intro k' hk'
  cases tk with
  | none=>cases hk'
  | some k=>
   simp only [oI] at hk';subst hk';obtain ⟨q,g1,g2,g3⟩:=h4 k rfl;obtain ⟨g4,g5⟩:=ht k q g1;exact ⟨q,g4,g2,fun hn=>by rw [g5];exact g3 hn⟩
 | .pt cs off,v,h=>by
  have he:E.cl=E2.cl:=by simp [En.cl,hc]
  simp only [Rv,shD] at h ⊢;rw [he];exact h
 | .loc i off,v,h=>by
  simp only [Rv] at h;obtain ⟨b,h1,_⟩:=h;rw [hβ] at h1;simp at h1
 | .el i off,v,h=>by
  simp only [Rv] at h;obtain ⟨b,h1,_⟩:=h;rw [hβ] at h1;simp at h1
 | .ms i e off len cap,v,h=>by
  simp only [Rv] at h;obtain ⟨b,_,h1,_⟩:=h;rw [hβ] at h1;simp at h1
 | .fn f a b,v,h=>by
  simp only [Rv,shD] at h ⊢;obtain ⟨l,r,h1,h2,h3⟩:=h;exact ⟨l,r,h1,shL_sound hβ hc ht h2,shL_sound hβ hc ht h3⟩
 | .ifc t x,v,h=>by
  simp only [Rv,shD] at h ⊢;obtain ⟨z,h1,h2⟩:=h;exact ⟨z,h1,shD_sound hβ hc ht h2⟩
theorem shL_sound {m:Nat} {E2 E:En} (hβ:E2.β=[]) (hc:E.c=E2.c) (ht:∀ (k:Nat) q,E2.tk[k]? = some q->E.tk[m + k]? = some q/\E.τ[m + k]? = E2.τ[k]?):∀ {l:List DV} {vs:List Value},RvL E2 l vs->RvL E (shL m l) vs
 | [],vs,h=>by simpa only [RvL,shL] using h
 | d :: r,vs,h=>by
  simp only [RvL,shL] at h ⊢;obtain ⟨v,s,h1,h2,h3⟩:=h;exact ⟨v,s,h1,shD_sound hβ hc ht h2,shL_sound hβ hc ht h3⟩
end
section
variable {X:Ctx} {st:St} {k:List It} {E:En} {a:Act} {w:World}
theorem quiet_relF (h:Rel X E st a w) (hst:X.still=false) {E2:En} {w':World} (hm:Modd (E.cl).S w w') (he:Env E2 [] w') (hn:Nw E.cl E2 w):Rel X ⟨E2.c,E.β,E.tk ++ E2.tk,E.τ ++ E2.τ⟩ ⟨st.sl,st.bx,st.tk ++ E2.tk⟩ a w':=by
 have hq:=quiet_rel h hst hm he hn;have hfr:∀ (j:Nat) y g,E2.τ[j]? = some y->y.ownBlock=some g->w.heap.size<=g:=fun j y g hy hg=>hn.tn j y g (Nat.zero_le _) hy hg;have hold:∀ (k:Nat) y g,E.τ[k]? = some y->y.ownBlock=some g->g < w.heap.size:=fun k y g hy hg=>(h.env.own (mG hy) hg).1;have htl:E.τ.length=E.tk.length:=h.env.tl
 have hτ:∀ (k:Nat) y,(E.τ ++ E2.τ)[k]? = some y->(k < E.τ.length/\E.τ[k]? = some y)∨(E.τ.length<=k/\E2.τ[k - E.τ.length]? = some y):=fun k y hy=>by
  rw [List.getElem?_append] at hy;split at hy
  ·rename_i hk;exact .inl ⟨hk,hy⟩
  ·rename_i hk;exact .inr ⟨by omega,hy⟩
 have hx:Ext ⟨E2.c,E.β,E.tk,E.τ⟩ ⟨E2.c,E.β,E.tk ++ E2.tk,E.τ ++ E2.τ⟩:=⟨fun _ _ h=>h,fun _ _ h=>h,fun j q hj=>by
  have hj:E.tk[j]? = some q:=hj;have hlt:=(gS hj).1;refine ⟨q,by show (E.tk ++ _)[j]? = _;rw [List.getElem?_append_left hlt];exact hj,.inl ⟨rfl,?_⟩⟩;show (E.τ ++ _)[j]? = _
  rw [List.getElem?_append_left (by rw [htl];exact hlt)]⟩
 refine rel_env hq hx ?_ (by show E.tk ++ _=_;rw [h.tk]) ?_ hq.fr (noSt hst) hq.bt
 ·exact {
   len:=h.env.len
   tl:=by show (E.τ ++ _).length=(E.tk ++ _).length;simp [htl,he.tl]
   bxs:=fun i cs hi=>by
    obtain ⟨b,t,arr,hb,hw,hc⟩:=hq.env.bxs i cs hi;exact ⟨b,t,arr,hb,hw,hc.mono hx⟩
   inj:=h.env.inj
   sub:=he.sub
   pc:=hq.env.pc
   tks:=fun j q y hqj hy=>by
    have hqj:(E.tk ++ E2.tk)[j]? = some q:=hqj;rcases hτ j y hy with ⟨hlt,hy'⟩ | ⟨hle,hy'⟩
    ·rw [List.getElem?_append_left (by rw [<- htl];exact hlt)] at hqj;exact hq.env.tks j q y hqj hy'
    ·rw [List.getElem?_append_right (by rw [<- htl];exact hle),<- htl] at hqj;rcases he.tks _ q y hqj hy' with h1 | ⟨g,cap,cur,rfl,h1,h2,h3,h4,_,h6⟩
     ·exact .inl h1
     ·refine .inr ⟨g,cap,cur,rfl,h1,h2,h3,h4,fun hm'=>?_,h6⟩;have:=hfr _ _ g hy' rfl;have:=h.env.block_lt hm';omega
   tkd:=fun i j y y' g hij hy hy' hg hg'=>by
    rcases hτ i y hy with ⟨_,h1⟩ | ⟨h0,h1⟩
    ·rcases hτ j y' hy' with ⟨_,h2⟩ | ⟨_,h2⟩
     ·exact h.env.tkd i j y y' g hij h1 h2 hg hg'
     ·have:=hold i y g h1 hg;have:=hfr _ y' g h2 hg';omega
    ·rcases hτ j y' hy' with ⟨_,h2⟩ | ⟨h00,h2⟩
     ·have:=hold j y' g h2 hg';have:=hfr _ y g h1 hg;omega
     ·exact he.tkd _ _ y y' g (by omega) h1 h2 hg hg' }
 ·exact {
   c:=hq.nw.c
   cn:=hq.nw.cn
   β:=h.nw.β
   tk:=fun j q0 y0 hq0 hy0=>by
    obtain ⟨q',y',h1,h2,h3⟩:=h.nw.tk j q0 y0 hq0 hy0;exact ⟨q',y',by show (E.tk ++ _)[j]? = _;rw [List.getElem?_append_left (gS h1).1];exact h1,by show (E.τ ++ _)[j]? = _;rw [List.getElem?_append_left (gS h2).1];exact h2,h3⟩
   tn:=fun j y g hj hy hg=>by
    rcases hτ j y hy with ⟨_,h1⟩ | ⟨_,h1⟩
    ·exact h.nw.tn j y g hj h1 hg
    ·exact Nat.le_trans h.fr.size (hfr _ y g h1 hg)
   l0:=h.nw.l0 }
theorem calls_f {P:Program} (h:Rel X E st a w) (hst:X.still=false) {f:FuncId} {args args':List DV} {vs:List Value} {Φ:DV->List (List DV)->List TkE->Prop} (hc:EvF P f args' [] [] Φ) (ha:CcL [] 0 0 0 args' args) (hv:RvL E args vs) :
  Calls P f vs.toArray w fun e w'=>∃ v E' d tks,e = .returned v/\Rel X E' ⟨st.sl,st.bx,st.tk ++ tks⟩ a w' /\ Rv E' (shD st.tk.length d) v/\Φ d [] tks/\Modd E.cl.S w w' /\ Ext E E' /\ E'.β=E.β:=by
 have hv':RvL E.cl args' vs:=CcL.sound (E:=E) (E':=E.cl) ⟨fun _ _ h=>h,fun i cs _ hi=>by simp at hi⟩ (Low.zero _ _) ha hv;refine (hc E.cl w vs (env_cl h.env) rfl hv').mono ?_;rintro e w' ⟨v,rfl,hm,_,d,os,E2,he,hβ,_,hn,hvd,hΦ⟩;have hβ:E2.β=[]:=hβ
 have hos:os=[]:=by
  have:=he.len;rw [hβ] at this;exact List.eq_nil_of_length_eq_zero this.symm
 subst hos;have htl:E.τ.length=E.tk.length:=h.env.tl
 have hx:Ext E ⟨E2.c,E.β,E.tk ++ E2.tk,E.τ ++ E2.τ⟩:=⟨hn.c,fun _ _ h=>h,fun j q hj=>by
  have hlt:=(gS hj).1;refine ⟨q,by show (E.tk ++ _)[j]? = _;rw [List.getElem?_append_left hlt];exact hj,.inl ⟨rfl,?_⟩⟩;show (E.τ ++ _)[j]? = _
  rw [List.getElem?_append_left (by rw [htl];exact hlt)]⟩
 refine ⟨v,_,d,E2.tk,rfl,quiet_relF h hst hm he hn,shD_sound (E2:=E2) (E:=⟨E2.c,E.β,E.tk ++ E2.tk,E.τ ++ E2.τ⟩) (m:=st.tk.length) hβ rfl (fun k q hq=>?_) hvd,hΦ,hm,hx,rfl⟩;rw [<- h.tk];constructor
 ·show (E.tk ++ E2.tk)[_]? = _;rw [List.getElem?_append_right (by omega)];simpa using hq
 ·show (E.τ ++ E2.τ)[_]? = _;rw [List.getElem?_append_right (by omega),htl];simp
theorem call_f {f:FuncId} {args args':List DV} {d:Nat} (hen:Enters X.P f) (hd:okD X.nt st.sl (some d)=true) {Φ:DV->List (List DV)->List TkE->Prop} (hc:EvF X.P f args' [] [] Φ) (ha:CcL [] 0 0 0 args' args)
  (hk:∀ r tks,Φ r [] tks->go X 4000 k ⟨(d,⟨[],shD st.tk.length r⟩) :: st.sl,st.bx,st.tk ++ tks⟩) (hst:X.still=false:=by exact rfl):CallG X f args (some d) k st:=by
 refine ⟨hen,hst,fun E a w vs h hv=>(calls_f h hst hc ha hv).mono ?_⟩;rintro e w' ⟨v,E',r,tks,rfl,hrel,hr,hΦ,_⟩;exact go_sound 4000 _ _ (hk r tks hΦ) E' _ w' (put_rel hrel hd _ v hr)
end
end Dv
end Go.Proofs.YtadbccicdbopcaaGreat
namespace Go.Proofs.YtadbccicdbopcaaGreat
namespace Dv
open Go Go.RowKit
section
variable {X:Ctx} {st:St} {k:List It} {E:En} {a:Act} {w:World}
theorem own_row (h:Rel X E st a w) {es:List (List DV)} {cs:List DV} {kt m ety e:Nat} {v:Value} (hv:Rv E (.sl 0 es (some kt)) v) (hq:st.tk[kt]? = some ⟨m,ety,e,some cs⟩) (hes:es.length=m) (hm:0 < m) :
  ∃ g cap,∃ cur:Array Value,v = .slice (some ⟨g,0,none⟩) m cap/\E.tk[kt]? = some ⟨m,ety,e,some cs⟩/\E.τ[kt]? = some v/\w.heap[g]? = some (.cells cur ety (0,0))/\cur.size=cap * e/\cs.length=m * e/\RvC E.cl cs (cur.toList.take (m * e))/\m<=cap/\cap<=maxLen/\g ∉ E.β/\∀ x u,E.c x=some u->x.block=g->x.off < 0:=by
 unfold Rv at hv;obtain ⟨bs,ns,caps,e1,⟨hns,hsc⟩,hsr,hstk⟩:=hv;subst hns;obtain ⟨q',hq',_,hτk⟩:=hstk kt rfl;have hq2:E.tk[kt]? = some ⟨m,ety,e,some cs⟩:=by rw [h.tk];exact hq
 rw [hq2] at hq';simp only [oI] at hq';subst hq';have hy:=hτk hes;rcases h.env.tks kt _ _ hq2 hy with ⟨_,hn0,_⟩ | ⟨g,cap,cur,hv0,hw0,⟨hs0,hown0⟩,hnc0,hcm0,hb0,hc0⟩
 ·simp only at hn0;omega
 obtain ⟨h5,h6⟩:=hown0 cs rfl;exact ⟨g,cap,cur,hv0,hq2,hy,hw0,hs0,h5,h6,hnc0,hcm0,hb0,hc0⟩
theorem own_idx {o1:Oper} {t et e by' nn m g cap:Nat} {bb:Bool} {zz:List Value} {z:Int} {kd:IntKind} {s ix:Operand} (h1:o1.op = .indexAddr t s ix) (e1:a.eval s = .slice (some ⟨g,0,none⟩) m cap) (e2:a.eval ix = .int kd z)
  (hT:X.T.find t=some ⟨nn,bb,.sl et e by',zz⟩) (hz:0<=z/\z < m) (w:World):(execOp a.eval o1).run X.P w = .ok (.value (.pointer (some ⟨g,z.toNat * e,none⟩))) w:=by
 obtain ⟨hu,ii,zv,hi2,_,hsz2,_,_⟩:=und_sl X.hT hT;have hsz':szOf X.P et=some e:=by rw [size_of_info hi2,hsz2]
 have hrun:(Instr.indexAt t (.slice (some ⟨g,0,none⟩) m cap) (.int kd z)).run X.P w = .ok (.pointer (some ⟨g,z.toNat * e,none⟩)) w:=by
  simp [Instr.indexAt,asIntOf,run_underlying hu,hz.1,hz.2,run_sizeOf' hsz',Addr.add_lit]
 simp only [execOp,h1,e1,e2,Sem.run_bind,hrun,Result.andThen_ok,Sem.run_pure]
theorem own_sto {o2:Oper} {d1 kt ty e m ety:Nat} {z:Int} {es:List (List DV)} {cs cs':List DV} {v:Value} {x:Operand} {dv:DV} {g cap:Nat}
  (hr1:Rel X E st a w) (h2:o2.op = .store ty (.tmp d1) x) (ht1:a.eval (.tmp d1) = .pointer (some ⟨g,z.toNat * e,none⟩)) (hv:Rv E (.sl 0 es (some kt)) v) (hvg:v = .slice (some ⟨g,0,none⟩) m cap)
  (hx:rv st [] x=some dv) (hdv:eraL dv.cells (fun l=>some l)=some cs') (hdc:dv.cells.length=e) (he0:0 < e)
  (hsz:X.T.sz ty=some e) (hq:st.tk[kt]? = some ⟨m,ety,e,some cs⟩) (hes:es.length=m) (hz:0<=z/\z < m) (hst:X.still=false) :
  ∃ w' E',(execOp a.eval o2).run X.P w = .ok .skip w' /\ Rel X E' ⟨st.sl,st.bx,st.tk.set kt ⟨m,ety,e,some (cs.take (z.toNat * e) ++ cs' ++ cs.drop (z.toNat * e + e))⟩⟩ a w':=by
 obtain ⟨g',caps,cur,e1,hq2,hy,hw0,hs0,h5,h6,hnc0,hcm0,hb0,hc0⟩:=own_row hr1 hv hq hes (by omega);rw [hvg] at e1;injection e1 with i1 i2 i3
 injection i1 with i1
 injection i1 with i1
 subst i1 i3;rw [hvg] at hy;have e3:=sl_val hr1.rl hx;have hcl:RvC E dv.cells (a.eval x).cells.toList:=e3.cells (fills_len (n:=e) hdc (by omega));have hvl:(a.eval x).cells.toList.length=e:=by rw [hcl.1.length];exact hdc
 obtain ⟨l',hl1,hx1,_⟩:=eraL_sound hdv hcl;simp only [oI] at hl1;rw [hl1] at hx1;have hme:m * e<=cap * e:=Nat.mul_le_mul_right _ hnc0
 have hpos:z.toNat * e + e<=m * e:=by
  have:(z.toNat + 1) * e<=m * e:=Nat.mul_le_mul_right _ (by omega);rw [Nat.add_mul] at this;omega
 have hcurl:cur.toList.length=cap * e:=by simpa using hs0
 have hsv:=storeVar_blk (P:=X.P) (t:=ty) (off:=z.toNat * e) (n:=e) hw0 (sz_ok X.hT hsz) hvl (by rw [hs0];omega) (List.all_eq_true.2 hcl.2);generalize hN:cur.toList.take (z.toNat * e) ++ (a.eval x).cells.toList ++ cur.toList.drop (z.toNat * e + e)=N at hsv
 have hNl:N.length=cap * e:=by
  subst hN;simp only [List.length_append,List.length_take,List.length_drop,hvl,hcurl];omega
 have hNt:N.take (m * e)=(cur.toList.take (m * e)).take (z.toNat * e) ++ (a.eval x).cells.toList ++ (cur.toList.take (m * e)).drop (z.toNat * e + e):=by
  subst hN;rw [List.take_append,List.take_append,List.take_take,List.take_take];have h1:(cur.toList.take (z.toNat * e)).length=z.toNat * e:=by rw [List.length_take];omega
  rw [List.length_append,h1,hvl,Nat.min_eq_right (by omega),Nat.min_eq_left (by omega),List.take_of_length_le (l:=(a.eval x).cells.toList) (by rw [hvl];omega),List.drop_take]
 have hat:TkAt (World.setBlk w g (.cells N.toArray ety (0,0))) E.c E.β ⟨m,ety,e,some (cs.take (z.toNat * e) ++ cs' ++ cs.drop (z.toNat * e + e))⟩ (.slice (some ⟨g,0,none⟩) m cap):=by
  refine .inr ⟨g,cap,_,rfl,setBlk_same hw0,⟨by simpa using hNl,fun cs2 hc'=>?_⟩,hnc0,hcm0,hb0,hc0⟩;simp only [oI] at hc';subst hc';simp only;have h8:=((RvC.take (z.toNat * e) h6).append hx1).append (RvC.drop (z.toNat * e + e) h6);rw [<- hNt] at h8;have hl8:=h8.1.length;refine ⟨?_,by show RvC E.cl _ (N.toArray.toList.take (m * e));simpa using h8⟩;rw [<- hl8,List.length_take,hNl];omega
 obtain ⟨hrel,_⟩:=own_rel (q':=⟨m,ety,e,some (cs.take (z.toNat * e) ++ cs' ++ cs.drop (z.toNat * e + e))⟩) (w':=World.setBlk w g (.cells N.toArray ety (0,0))) hr1 hst hq2 hy rfl rfl rfl (.inl ⟨rfl,rfl⟩) hat (.inl rfl) rfl rfl rfl (by rw [setBlk_size];exact Nat.le_refl _) (fun j _ hne=>setBlk_other (by
  rintro rfl
  exact hne rfl))
 refine ⟨_,_,?_,hrel⟩;simp only [execOp,h2,ht1,Instr.storeAt,Instr.sureAddr,Sem.run_bind,Sem.run_pure,Result.andThen_ok,hsv]
theorem callD_own {D:Dr} {c:Bool} {i i1 i2:Nat} {s0:List (Nat × Sl)} {o1 o2:Oper} {f:FuncId} {args args':List DV} {d d1 kt t ty et e by' m ety nn:Nat} {bb:Bool} {zz:List Value} {z:Int} {kd:IntKind} {es:List (List DV)} {cs cs':List DV} {s ix x:Operand} {res dv:DV}
  (hen:Enters X.P f) (hd:okD X.nt st.sl (some d)=true) (hc:EvP X.P f args' res) (ha:CcL [] 0 0 0 args' args)
  (h1:o1.op = .indexAddr t s ix/\o1.dst=some d1/\o1.guard=none) (h2:o2.op = .store ty (.tmp d1) x/\o2.dst=none/\o2.guard=none) (hd1:okD X.nt ((d,⟨[],res⟩) :: st.sl) (some d1)=true)
  (hs:rv ⟨(d,⟨[],res⟩) :: st.sl,st.bx,st.tk⟩ [] s=some (.sl 0 es (some kt))) (hi:rv ⟨(d,⟨[],res⟩) :: st.sl,st.bx,st.tk⟩ [] ix=some (.v (.int kd z)))
  (hx:rv ⟨(d1,⟨[],.pt [] 0⟩) :: (d,⟨[],res⟩) :: st.sl,st.bx,st.tk⟩ [] x=some dv) (hdv:eraL dv.cells (fun l=>some l)=some cs') (hdc:dv.cells.length=e) (he0:0 < e)
  (hT:X.T.find t=some ⟨nn,bb,.sl et e by',zz⟩) (hsz:X.T.sz ty=some e) (hq:st.tk[kt]? = some ⟨m,ety,e,some cs⟩) (hes:es.length=m) (hz:0<=z/\z < m) (hW2:D.W i2=true)
  (hk:∃ st2,Wk X ⟨(d1,⟨[],.pt [] 0⟩) :: (d,⟨[],res⟩) :: st.sl,st.bx,st.tk.set kt ⟨m,ety,e,some (cs.take (z.toNat * e) ++ cs' ++ cs.drop (z.toNat * e + e))⟩⟩ st2/\go X 4000 D.k st2)
  (hst:X.still=false:=by exact rfl) (hf:D.fin=none:=by exact rfl):CallD X D c i [(i1,o1),(i2,o2)] f args (some d) s0 st:=by
 refine ⟨hen,fun hl E0 wr hD E a w vs h hv=>(calls_quiet h.rel hst hc ha hv).mono ?_⟩;rintro e9 w' ⟨v,E',r,rfl,hrel,hr,rfl,hm9,hx9,hβ9⟩
 have hh9:∀ b,b < w.heap.size->w'.heap[b]? = w.heap[b]?:=fun b hb=>hm9.block b hb (by
  rintro (h1 | ⟨y,h1,_⟩)
  ·simp [En.cl] at h1
  ·simp [En.cl] at h1)
 have hs9:Stp none E w E' w':=⟨hx9,⟨[],by rw [hβ9];simp⟩,fun j b hb _=>hh9 b (h.rel.env.block_lt (mG hb))⟩;refine ⟨v,rfl,(fun _=>stp_C h hs9 hrel (fun j hj=>by cases hj)),?_⟩;have hr0:=put_rel hrel hd r v hr;generalize ha0:a.put (some d) v=a0 at hr0;have hrl:=hr0.rl;have e2:=rv_int_eq (sl_val hrl hi);have hv:=sl_val hrl hs;obtain ⟨g,cap,cur,e1,_⟩:=own_row hr0 hv hq hes (by omega);have hE1:isE o1.op=false:=by rw [h1.1];all_goals rfl
 have hL1:isL o1.op=false:=by rw [h1.1];all_goals rfl
 have hE2:isE o2.op=true:=by rw [h2.1];all_goals rfl
 have g1:D.ops[i1]? = some o1:=hl (i1,o1) (by simp);have g2:D.ops[i2]? = some o2:=hl (i2,o2) (by simp);show runT X.P D.ops D.W _ (Dw.Q ⟨D,E0,wr⟩ X) [i1,i2] a0 w';have hr1:Rel X E' ⟨(d1,⟨[],.pt [] 0⟩) :: (d,⟨[],r⟩) :: st.sl,st.bx,st.tk⟩ (a0.put (some d1) (.pointer (some ⟨g,z.toNat * e,none⟩))) w':=put_rel hr0 hd1 (.pt [] 0) _ (by unfold Rv;exact ⟨g,z.toNat * e,rfl,by simp only [RvAt]⟩)
 have ht1:(a0.put (some d1) (.pointer (some ⟨g,z.toNat * e,none⟩))).eval (.tmp d1) = .pointer (some ⟨g,z.toNat * e,none⟩):=by
  simp only [okD,Bool.and_eq_true,Nat.blt_eq] at hd1;simp [Act.eval,Act.put,hr0.sz,hd1.1]
 simp only [runT,g1,hE1,Bool.false_eq_true,if_false];refine ⟨.pointer (some ⟨g,z.toNat * e,none⟩),.inl ⟨wanted_none h1.2.2,fun w9 _=>own_idx h1.1 e1 e2 hT hz w9⟩,fun h9=>(by rw [hL1] at h9;cases h9),?_⟩;rw [h1.2.1];generalize a0.put (some d1) (.pointer (some ⟨g,z.toNat * e,none⟩))=a1 at hr1 ht1;have hwn:=wanted_none (ops:=D.ops) (a:=a1) h2.2.2;simp only [g2,hE2,if_true,stepX,hwn];obtain ⟨w2,E2,hrun,hrel2⟩:=own_sto hr1 h2.1 ht1 hv e1 hx hdv hdc he0 hsz hq hes hz hst;refine wq_unit hrun ?_;rw [h2.2.1];refine ⟨(fun hw=>by rw [hW2] at hw;cases hw),?_⟩;obtain ⟨st2,hwk,hgo⟩:=hk;obtain ⟨E3,hr3⟩:=hwk _ _ _ hrel2;show Dw.Q ⟨D,E0,wr⟩ X _ _;unfold Dw.Q;simp only [hf];exact go_sound 4000 _ _ hgo _ _ _ hr3
end
end Dv
end Go.Proofs.YtadbccicdbopcaaGreat
namespace Go.Proofs.YtadbccicdbopcaaGreat
namespace Dv
open Go Go.RowKit
section
variable {X:Ctx} {st:St} {k:List It} {E:En} {a:Act} {w:World} {o:Oper}
end
end Dv
end Go.Proofs.YtadbccicdbopcaaGreat
namespace Go.Proofs.YtadbccicdbopcaaGreat
namespace Dv
open Go Go.RowKit
section
variable {X:Ctx} {st:St} {k:List It} {E:En} {a:Act} {w:World} {o:Oper}
theorem lit_sO {t d et e by' n len:Nat} {bb:Bool} {z:List Value} {parts:Array (Nat × Operand)} {es:List (List DV)} (hop:o.op = .buildSlice t len parts) (hdst:o.dst=some d) (hT:X.T.find t=some ⟨n,bb,.sl et e by',z⟩) (hes:litL e st parts.toList 0=some es)
  (hc:(Nat.beq es.length len && (Nat.blt 0 len && Nat.blt 0 e && Nat.ble (len * e) 16777216))=true) (hd:okD X.nt st.sl (some d)=true) (hst:X.still=false:=by exact rfl) (hX:X.bt=[]:=by exact rfl) :
  OpS X o st ⟨(d,⟨[],.sl 0 (List.replicate len []) (some st.tk.length)⟩) :: st.sl,st.bx,st.tk ++ [⟨len,et,e,some es.flatten⟩]⟩:=by
 intro E a w h;simp only [Bool.and_eq_true,Nat.beq_eq,Nat.ble_eq,Nat.blt_eq] at hc;obtain ⟨hlen,⟨hpos,hep⟩,hsm⟩:=hc;obtain ⟨hu,ii,zv,hi2,hz,hsz,hby,hzs⟩:=und_sl X.hT hT;obtain ⟨xs,vs,hp,hvs,hvl,hcl,hrc,hel⟩:=litL_sound h.rl hep hes;subst hsz
 have hzc:len * ii.size≠0:=by
  have:=Nat.mul_pos hpos hep;omega
 have hfill:Instr.fill (fun i=>some (i * ii.size,ii.size)) ((Array.range (len * ii.size)).map (zv.cells[·% zv.cells.size]!)) (parts.map fun (i,x)=>(i,a.eval x)).toList=some (cellsL vs).toArray:=by
  have h0:=fill_seq ii.size vs 0 ((Array.range (len * ii.size)).map (zv.cells[·% zv.cells.size]!)).toList hcl (by simp [hvl,hlen])
  have h1:(parts.map fun (i,x)=>(i,a.eval x)).toList=enumF 0 vs:=by
   rw [Array.toList_map,hp,hvs,<- enumF_map]
  rw [h1];simp only [Array.toArray_toList] at h0;rw [h0];simp [hvl,hlen]
 have hrun:(execOp a.eval o).run X.P w = .ok (.value (.slice (some ⟨w.heap.size,0,none⟩) len len)) (w.alloc (.cells (cellsL vs).toArray et)):=by
  simp only [execOp,hop,Sem.run_bind,run_buildSlice w t et len _ _ ii zv hu hi2 hz (by omega) hzc hfill,Result.andThen_ok,Sem.run_pure]
 have hvlen:(cellsL vs).length=len * ii.size:=by
  have:∀ l:List Value,(∀ v∈l,v.cells.toList.length=ii.size)->(cellsL l).length=l.length * ii.size:=by
   intro l
   induction l with
   | nil=>intro _;simp [cellsL]
   | cons v l ih=>
    intro hl;simp only [cellsL,List.length_append,List.length_cons];rw [ih fun x hx=>hl x (List.mem_cons_of_mem _ hx),hl v List.mem_cons_self,Nat.succ_mul];omega
  rw [this vs hcl,hvl,hlen]
 refine wq_value hrun ?_;rw [hdst]
 have hfl:es.flatten.length=len * ii.size:=by
  have h1:=hrc.1.length;rw [<- h1,hvlen]
 have hown2:RvC ⟨E.c,[],[],[]⟩ es.flatten ((cellsL vs).toArray.toList.take (len * ii.size)):=by
  rw [List.take_of_length_le (by simp [hvlen])];exact hrc
 have hlm:len<=maxLen:=by
  have:len<=len * ii.size:=Nat.le_mul_of_pos_right _ hep;unfold maxLen;omega
 have hk1:=h.env.keep (w':=w.alloc (.cells (cellsL vs).toArray et)) fun i hi=>alloc_old w _ hi
 let E2:En:=⟨E.c,E.β,E.tk ++ [⟨len,et,ii.size,some es.flatten⟩],E.τ ++ [.slice (some ⟨w.heap.size,0,none⟩) len len]⟩
 have hext:Ext E E2:=⟨fun _ _ h=>h,fun _ _ h=>h,fun k q' hk=>by
  have hlt:=(gS hk).1;refine ⟨q',by show (E.tk ++ _)[k]? = _;rw [List.getElem?_append_left hlt];exact hk,.inl ⟨rfl,?_⟩⟩;show (E.τ ++ _)[k]? = _
  rw [List.getElem?_append_left (by rw [h.env.tl];exact hlt)]⟩
 have hτ:∀ (k:Nat) y,E2.τ[k]? = some y->(k < E.τ.length/\E.τ[k]? = some y)∨(k=E.τ.length/\y = .slice (some ⟨w.heap.size,0,none⟩) len len):=fun k y hy=>by
  have hy:(E.τ ++ [Value.slice (some ⟨w.heap.size,0,none⟩) len len])[k]? = some y:=hy;rw [List.getElem?_append] at hy;split at hy
  ·rename_i hk;exact .inl ⟨hk,hy⟩
  ·rename_i hk
   have h0:k - E.τ.length=0:=by
    rcases Nat.eq_zero_or_pos (k - E.τ.length) with h0 | h0
    ·exact h0
    ·rw [List.getElem?_eq_none (by simp;omega)] at hy;cases hy
   rw [h0] at hy;simp only [List.getElem?_cons_zero,oI] at hy;exact .inr ⟨by omega,hy.symm⟩
 have hown:∀ (k:Nat) y g,E.τ[k]? = some y->y.ownBlock=some g->g < w.heap.size:=fun k y g hy hg=>(h.env.own (mG hy) hg).1
 have hrel:Rel X E2 ⟨st.sl,st.bx,st.tk ++ [⟨len,et,ii.size,some es.flatten⟩]⟩ a (w.alloc (.cells (cellsL vs).toArray et)):=by
  refine rel_env h hext ?_ (by show E.tk ++ _=_;rw [h.tk]) ?_ (h.fr.alloc _) (noSt hst) (.nil hX)
  ·exact {
    len:=h.env.len
    tl:=by show (E.τ ++ _).length=(E.tk ++ _).length;simp [h.env.tl]
    bxs:=fun i cs hi=>by
     obtain ⟨b,t,arr,hb,hw,hc⟩:=hk1.bxs i cs hi;exact ⟨b,t,arr,hb,hw,hc.mono hext⟩
    inj:=h.env.inj
    sub:=hk1.sub
    pc:=h.env.pc
    tks:=fun k q' y hkq hy=>by
     rcases hτ k y hy with ⟨hlt,hy'⟩ | ⟨rfl,rfl⟩
     ·have hk':(E.tk ++ [⟨len,et,ii.size,some es.flatten⟩])[k]? = some q':=hkq;rw [List.getElem?_append_left (by rw [<- h.env.tl];exact hlt)] at hk';exact hk1.tks k q' y hk' hy'
     ·have hk':(E.tk ++ [⟨len,et,ii.size,some es.flatten⟩])[E.τ.length]? = some q':=hkq;rw [List.getElem?_append_right (by rw [h.env.tl];exact Nat.le_refl _),h.env.tl] at hk';simp only [Nat.sub_self,List.getElem?_cons_zero,oI] at hk';subst hk';refine .inr ⟨w.heap.size,len,(cellsL vs).toArray,rfl,alloc_new w _,⟨by simp [hvlen],fun cs hc=>by cases hc;exact ⟨hfl,hown2⟩⟩,Nat.le_refl _,hlm,fun hm=>?_,fun x v hx hxg=>?_⟩
      ·have:=h.env.block_lt hm;omega
      ·have:=World.block_lt_of_cell? w x (h.env.sub x v hx);omega
    tkd:=fun k k' y y' g hkk hy hy' hg hg'=>by
     rcases hτ k y hy with ⟨_,hy1⟩ | ⟨rfl,rfl⟩
     ·rcases hτ k' y' hy' with ⟨_,hy2⟩ | ⟨rfl,rfl⟩
      ·exact h.env.tkd k k' y y' g hkk hy1 hy2 hg hg'
      ·have:=hown k y g hy1 hg;simp only [Value.ownBlock,oI] at hg';omega
     ·rcases hτ k' y' hy' with ⟨_,hy2⟩ | ⟨rfl,rfl⟩
      ·have:=hown k' y' g hy2 hg';simp only [Value.ownBlock,oI] at hg;omega
      ·exact hkk rfl }
  ·exact {
    c:=h.nw.c
    cn:=h.nw.cn
    β:=h.nw.β
    tk:=fun j q0 y0 hq0 hy0=>by
     obtain ⟨q',y',h1,h2,h3⟩:=h.nw.tk j q0 y0 hq0 hy0;exact ⟨q',y',by show (E.tk ++ _)[j]? = _;rw [List.getElem?_append_left (gS h1).1];exact h1,by show (E.τ ++ _)[j]? = _;rw [List.getElem?_append_left (gS h2).1];exact h2,h3⟩
    tn:=fun j y g hj hy hg=>by
     rcases hτ j y hy with ⟨_,hy1⟩ | ⟨_,rfl⟩
     ·exact h.nw.tn j y g hj hy1 hg
     ·simp only [Value.ownBlock,oI] at hg;have:=h.fr.size;omega
    l0:=h.nw.l0 }
 refine ⟨E2,put_rel hrel hd (.sl 0 (List.replicate len []) (some st.tk.length)) _ ?_,hext,⟨[],by simp [E2]⟩,fun i b hb _=>alloc_old w _ (h.env.block_lt (mG hb))⟩;unfold Rv;refine ⟨_,_,_,rfl,⟨by rw [List.length_replicate],Nat.le_refl _⟩,fun hne=>⟨rfl,rvEs_none _ _ _ _⟩,fun k' hk'=>?_⟩;cases hk';refine ⟨⟨len,et,ii.size,some es.flatten⟩,?_,Nat.le_refl _,fun _=>?_⟩
 ·show (E.tk ++ _)[st.tk.length]? = _;rw [h.tk];simp
 ·show (E.τ ++ _)[st.tk.length]? = _;rw [<- h.tk,<- h.env.tl];simp
theorem op_litO {t d et e by' n len:Nat} {bb:Bool} {z:List Value} {parts:Array (Nat × Operand)} {es:List (List DV)} (hop:o.op = .buildSlice t len parts) (hdst:o.dst=some d) (hT:X.T.find t=some ⟨n,bb,.sl et e by',z⟩) (hes:litL e st parts.toList 0=some es)
  (hc:(Nat.beq es.length len && (Nat.blt 0 len && Nat.blt 0 e && Nat.ble (len * e) 16777216))=true) (hd:okD X.nt st.sl (some d)=true) (hst:X.still=false:=by exact rfl) (hX:X.bt=[]:=by exact rfl)
  (hk:go X 4000 k ⟨(d,⟨[],.sl 0 (List.replicate len []) (some st.tk.length)⟩) :: st.sl,st.bx,st.tk ++ [⟨len,et,e,some es.flatten⟩]⟩):OpG X o k st:=(lit_sO hop hdst hT hes hc hd hst hX).g hk
end
end Dv
end Go.Proofs.YtadbccicdbopcaaGreat
namespace Go.Proofs.YtadbccicdbopcaaGreat
namespace Dv
open Go Go.RowKit
theorem rvL_last {E E':En} {x x':DV} (h:∀ z,Rv E x z->Rv E' x' z):∀ {l:List DV} {vs:List Value},(∀ d∈l,∃ v,d = .v v)->RvL E (l ++ [x]) vs->RvL E' (l ++ [x']) vs
 | [],vs,_,hv=>by
  simp only [List.nil_append,RvL] at hv ⊢;obtain ⟨v,s,rfl,h1,h2⟩:=hv;exact ⟨v,s,rfl,h v h1,h2⟩
 | d :: r,vs,hl,hv=>by
  simp only [List.cons_append,RvL] at hv ⊢;obtain ⟨v,s,rfl,h1,h2⟩:=hv;refine ⟨v,s,rfl,?_,rvL_last h (fun d hd=>hl d (List.mem_cons_of_mem _ hd)) h2⟩;obtain ⟨u,rfl⟩:=hl d List.mem_cons_self;unfold Rv at h1 ⊢;exact h1
theorem endd_frz {E:En} {w w':World} {v:Value} {l:List DV} {es ns:List (List DV)} {n ty e:Nat} (henv:Env E [] w) (htk:E.tk=[]) (hl:∀ d∈l,∃ v,d = .v v) (hns:∀ x∈ns,x.length=e) (hnl:ns.length=n) (hes:es.length=n)
  (hc:Endd false E w (fun r _ tks=>r = .agg (l ++ [.sl 0 es (some 0)])/\tks=[⟨n,ty,e,some ns.flatten⟩]) v w' true):Endd false E w (fun d _ _=>d = .agg (l ++ [.sl e ns none])) v w':=by
 obtain ⟨hm,hs,d,os,E2,he,hβ,htl,hn,hvd,rfl,htk2⟩:=hc
 have hos:os=[]:=by
  have h1:=he.len;have h2:=henv.len;rw [hβ] at h1;rw [h1] at h2;exact List.eq_nil_of_length_eq_zero h2
 subst hos;have hτl:E2.τ.length=1:=by rw [he.tl,htk2];all_goals rfl
 obtain ⟨y,hy⟩:∃ y,E2.τ[0]? = some y:=⟨_,gE (by omega)⟩;have hq:E2.tk[0]? = some ⟨n,ty,e,some ns.flatten⟩:=by rw [htk2];all_goals rfl
 have hot:=he.tks 0 _ y hq hy
 have hle:∀ x u,E2.c x=some u->ownC E2 w' y (n * e) x=some u:=fun x u hx=>by
  unfold ownC;split
  ·exact he.sub x u hx
  ·exact hx
 refine ⟨hm,hs,.agg (l ++ [.sl e ns none]),[],⟨ownC E2 w' y (n * e),E2.β,[],[]⟩,?_,hβ,?_,?_,?_,rfl⟩
 ·exact {
   len:=he.len
   tl:=rfl
   bxs:=fun i cs hi=>by simp at hi
   inj:=he.inj
   sub:=fun x u hx=>by
    rcases ownC_cases hx with ⟨_,_,_,h1⟩ | h1
    ·exact h1
    ·exact he.sub x u h1
   pc:=fun x u hx hm=>by
    rcases ownC_cases hx with ⟨h1,_⟩ | h1
    ·exact (own_at hot h1).2 hm
    ·exact he.pc x u h1 hm
   tks:=fun j q y hj _=>by simp at hj
   tkd:=fun j j' y y' g _ hj _ _=>by simp at hj }
 ·show 0=_;rw [htk];all_goals rfl
 ·exact {
   c:=fun x u hx=>hle x u (hn.c x u hx)
   cn:=fun x u hx=>by
    rcases ownC_cases hx with ⟨h1,_⟩ | h1
    ·exact .inr (.inl (hn.tn 0 y _ (by rw [htk];exact Nat.le_refl _) hy h1))
    ·exact hn.cn x u h1
   β:=hn.β
   tk:=fun j q0 y0 hq0 _=>by rw [htk] at hq0;simp at hq0
   tn:=fun j y g _ hj _=>by simp at hj
   l0:=hn.l0 }
 ·unfold Rv at hvd ⊢;obtain ⟨vs',rfl,hL,h1c⟩:=hvd;refine ⟨vs',rfl,rvL_last (fun z hz=>?_) hl hL,h1c⟩;unfold Rv at hz ⊢;obtain ⟨b,m,cap,rfl,⟨rfl,hmc⟩,hr,hst⟩:=hz;obtain ⟨q',hq',_,hτ⟩:=hst 0 rfl;rw [hq] at hq';simp only [oI] at hq';subst hq';have hy2:=hτ hes;rw [hy] at hy2;simp only [oI] at hy2;subst hy2;refine ⟨b,es.length,cap,rfl,⟨by omega,hmc⟩,fun hne=>?_,fun k' hk'=>by cases hk'⟩;rcases hot with ⟨h1,h2,h3⟩ | ⟨g,cap',cur,h0,h1,h2,h3,h4,h5,h6⟩
  ·simp only at h2;exact (hne (List.eq_nil_of_length_eq_zero (by omega))).elim
  ·injection h0 with i1 i2 i3
   subst i1;refine ⟨rfl,?_⟩;obtain ⟨h7,h8⟩:=h2.2 _ rfl;refine rvEs_flat (h8.mono (E:=⟨E2.c,[],[],[]⟩) ⟨hle,fun _ _ h=>by simp at h,fun _ _ h=>by simp at h⟩) hns fun j u hj=>?_;rw [List.getElem?_take] at hj;split at hj
   ·rename_i hjl;show ownC E2 w' _ (n * e) _=_;unfold ownC;rw [if_pos ⟨rfl,rfl,by simpa [ao] using hjl⟩];simp only [ab,ao,Nat.zero_add];rw [cell_blk h1];simpa using hj
   ·cases hj
theorem endd_none {E:En} {w w':World} {v:Value} {d:DV} (htk:E.tk=[]) (hc:Endd false E w (fun r _ tks=>r=d/\tks=[]) v w' true):Endd false E w (fun r _ _=>r=d) v w':=by
 obtain ⟨hm,hs,d,os,E2,he,hβ,htl,hn,hvd,rfl,htk2⟩:=hc;exact ⟨hm,hs,d,os,E2,he,hβ,by rw [htk2,htk];exact (rfl:(0:Nat)=0),hn,hvd,rfl⟩
theorem endd_or {s:Bool} {E:En} {w w':World} {v:Value} {fr:Bool} {A B:DV->List (List DV)->List TkE->Prop} (h:Endd s E w (fun r o t=>A r o t∨B r o t) v w' fr):Endd s E w A v w' fr∨Endd s E w B v w' fr:=by
 obtain ⟨hm,hs,d,os,E2,he,hβ,htl,hn,hvd,h1 | h1⟩:=h
 ·exact .inl ⟨hm,hs,d,os,E2,he,hβ,htl,hn,hvd,h1⟩
 ·exact .inr ⟨hm,hs,d,os,E2,he,hβ,htl,hn,hvd,h1⟩
theorem endd_mono {s:Bool} {E:En} {w w':World} {v:Value} {fr:Bool} {A B:DV->List (List DV)->List TkE->Prop} (h:Endd s E w A v w' fr) (hAB:∀ r o t,A r o t->B r o t):Endd s E w B v w' fr:=by
 obtain ⟨hm,hs,d,os,E2,he,hβ,htl,hn,hvd,h1⟩:=h;exact ⟨hm,hs,d,os,E2,he,hβ,htl,hn,hvd,hAB _ _ _ h1⟩
end Dv
end Go.Proofs.YtadbccicdbopcaaGreat
set_option maxRecDepth 100000
namespace Go.Proofs.YtadbccicdbopcaaGreat
open Go Go.RowKit Dv Tryz
mutual
def sameV:Val->Val->Bool
 | .mk k n s ks,.mk k' n' s' ks'=>decide (k=k') && decide (n=n') && decide (s=s') && sameVs ks ks'
def sameVs:List Val->List Val->Bool
 | [],[]=>true
 | v :: r,w :: q=>sameV v w && sameVs r q
 | _,_=>false
end
theorem sameVs_len:∀ {a b:List Val},a.length≠b.length->sameVs a b=false
 | [],[],h=>(h rfl).elim
 | v :: r,w :: q,h=>by rw [sameVs,sameVs_len (a:=r) (b:=q) (by simpa using h),Bool.and_false]
 | [],_ :: _,_=>by simp [sameVs]
 | _ :: _,[],_=>by simp [sameVs]
mutual
theorem sameV_iff:∀ {a b:Val},sameV a b=true↔a=b
 | .mk k n s ks,.mk k' n' s' ks'=>by
  have:=@sameVs_iff ks ks';simp only [sameV,Bool.and_eq_true,decide_eq_true_eq,this,Val.mk.injEq,and_assoc]
theorem sameVs_iff:∀ {a b:List Val},sameVs a b=true↔a=b
 | [],[]=>by simp [sameVs]
 | v :: r,w :: q=>by
  have h1:=@sameV_iff v w;have h2:=@sameVs_iff r q;simp only [sameVs,Bool.and_eq_true,h1,h2,List.cons.injEq]
 | [],_ :: _=>by simp [sameVs]
 | _ :: _,[]=>by simp [sameVs]
end
theorem sameV_refl (v:Val):sameV v v=true:=sameV_iff.2 rfl
def to0 (n:Nd):Int:=match n.edges[0]? with | some e=>e.to | none=>0
end Go.Proofs.YtadbccicdbopcaaGreat
set_option maxRecDepth 100000
namespace Go.Proofs.YtadbccicdbopcaaGreat
open Go Go.RowKit Dv Tryz
end Go.Proofs.YtadbccicdbopcaaGreat
set_option maxRecDepth 100000
namespace Go.Proofs.YtadbccicdbopcaaGreat
open Go Go.RowKit Dv Tryz
end Go.Proofs.YtadbccicdbopcaaGreat
set_option maxRecDepth 100000
namespace Go.Proofs.YtadbccicdbopcaaGreat
open Go Go.RowKit Dv Tryz
end Go.Proofs.YtadbccicdbopcaaGreat
set_option maxRecDepth 100000
namespace Go.Proofs.YtadbccicdbopcaaGreat
open Go Go.RowKit Dv Tryz
structure Stp where
 k:Int
 n:Int
 s:ByteArray
end Go.Proofs.YtadbccicdbopcaaGreat
set_option maxRecDepth 100000
namespace Go.Proofs.YtadbccicdbopcaaGreat
open Go Go.RowKit Dv Tryz
end Go.Proofs.YtadbccicdbopcaaGreat
set_option maxRecDepth 100000
namespace Go.Proofs.YtadbccicdbopcaaGreat
open Go Go.RowKit Dv Tryz
section
variable {L:Nat} {ND:List Nd} (hok:∀ n∈ND,NdOK L ND.length n)
include hok
end
section
variable {L:Nat} {ND:List Nd} (hok:∀ n∈ND,NdOK L ND.length n)
include hok
end
abbrev zVal:List DV:=[.v (.int .i64 0),.v (.int .i64 0),.v (.string emptyB),.v (.slice none 0 0)]
abbrev zeroV:Val:=.mk 0 0 emptyB []
theorem flat_setU {α:Type} {c:Nat} {x:List α}:∀ {l:List (List α)} {e:Nat},(∀ y∈l,y.length=c)->e < l.length->(l.set e x).flatten=l.flatten.take (e * c) ++ x ++ l.flatten.drop (e * c + c)
 | [],e,_,h=>by simp at h
 | y :: r,0,hl,h=>by
  have hy:=hl y (by simp);subst hy;simp
 | y :: r,e + 1,hl,h=>by
  have hy:=hl y (by simp);have ih:=flat_setU (x:=x) (l:=r) (e:=e) (fun z hz=>hl z (by simp [hz])) (by simpa using h);have h1:(e + 1) * c=y.length + e * c:=by rw [hy,Nat.add_mul,Nat.one_mul,Nat.add_comm]
  have h2:(e + 1) * c + c=y.length + (e * c + c):=by rw [h1];omega
  rw [List.set_cons_succ,List.flatten_cons,List.flatten_cons,ih,h2,h1,List.take_length_add_append,List.drop_length_add_append];simp
theorem dVals_cells:∀ (l:List Val),∀ x∈dVals l,x.length=4
 | [],x,h=>by simp [dVals] at h
 | .mk _ _ _ _ :: r,x,h=>by
  rw [dVals] at h;rcases List.mem_cons.1 h with h | h
  ·rw [h];all_goals rfl
  ·exact dVals_cells r x h
theorem dVals_set (l:List Val) (e:Nat) (y:Val):dVals (l.set e y)=(dVals l).set e (dVal y):=by rw [dVals_map,dVals_map,List.map_set]
def ownΦ (v:Val) (r:DV) (tks:List TkE):Prop:=
 (r = .agg ([.v (.int .i64 v.k),.v (.int .i64 v.n),.v (.string v.s)] ++ [.sl 0 (List.replicate v.ks.length []) (some 0)])/\tks=[⟨v.ks.length,59,4,some (dVals v.ks).flatten⟩])∨(v.ks=[]/\r = .agg (dVal v)/\tks=[])
theorem evp_val {P:Program} {f:FuncId} {args:List DV} {v:Val} (hc:EvF P f args [] [] (fun r _ tks=>ownΦ v r tks)):EvP P f args (.agg (dVal v)):=by
 intro E w vs henv htk hv;refine (hc E w vs henv htk hv).mono ?_;rintro ex w' ⟨x,rfl,h⟩;obtain ⟨k,n,s,ks⟩:=v;rcases endd_or h with h | h
 ·exact ⟨x,rfl,endd_frz (l:=[.v (.int .i64 k),.v (.int .i64 n),.v (.string s)]) henv htk (by simp) (dVals_cells ks) (dVals_len ks) List.length_replicate h⟩
 ·refine ⟨x,rfl,endd_none htk (endd_mono h fun r o t ht=>ht.2)⟩
section
variable (PC:List DV) (ND:List Nd) (D:List Nat) (K:List Bool) (sz ot:List Nat) {L:Nat}
abbrev on26St (n:Nd) (cs:List DV) (e:Nat):St:=
 ⟨[(0,⟨[],.pt (mkD PC ND D K sz ot) 0⟩),(4,⟨[],.loc 0 0⟩),(6,⟨[],.loc 2 0⟩),(30,⟨[],.sl 10 (dEds n.edges) none⟩),(31,⟨[],.v (.int .i64 (dEds n.edges).length)⟩),(32,⟨[],.v (.int .i64 e)⟩)],[zVal,dNd n,[.v (.int .i64 7),.v (.int .i64 0),.v (.string .empty),.sl 0 (List.replicate e []) (some 0)]],[⟨e,59,4,some cs⟩]⟩
theorem one_f (hO:DepOK ND D) (hok:∀ n∈ND,NdOK L ND.length n) (hsz:∀ n∈ND,n.edges.length<=1099511627776):∀ (f i:Nat),i < ND.length->0 < D.getD i 0->D.getD i 0<=f->EvF Tryz.prog 93 [.pt (mkD PC ND D K sz ot) 0,.v (.int .i64 i)] [] [] (fun r _ tks=>ownΦ (firstV ND D f i) r tks)
 | 0,i,_,h0,h1=>by omega
 | f + 1,i,hi,h0,h1=>by
  have ih:=fun j hj h0 h1=>evp_val (one_f hO hok hsz f j hj h0 h1);obtain ⟨n,hn⟩:∃ n,ND[i]? = some n:=⟨_,gE hi⟩;have hnm:=mG hn;have hN:=hok n hnm;have hrc:=hO.rcd hn h0;have hun:=hO.uni hn h0;have hch:=choose_spec PC ND D K sz ot hO.len hN (hsz n hnm);have hel:=hsz n hnm;have hedge:=hN.edge;have hbare:=hN.bare
  have hF:firstV ND D (f + 1) i=if n.kind=2 then valN 2 n.lo
   else if n.kind=7 then .mk 7 0 emptyB (n.edges.map fun e=>firstV ND D f e.to.toNat)
   else if n.kind=8 then (match chooseF D n.edges with | some c=>tagV (firstV ND D f) n.edges c | none=>valN 8 0)
   else valN n.kind 0:=by rw [firstV,hn];all_goals rfl
  generalize firstV ND D (f + 1) i=F at hF;generalize D.getD i 0=di at hrc hun h1;obtain ⟨kind,at',lo,hi',most,names,es⟩:=n;simp only at hrc hun hch hedge hel hF hbare;have hdl:=dEds_len es;refine evB_gom (s:=false) (bt:=[]) (mu:=[65]) (hbt:=fun p hp=>by cases hp) (fr:=true) (P:=Tryz.prog) tt tt_ok 5000 68 [.cell 4 59] Tryz.func93 rfl Tryz.ntmps93 rfl (nL rfl) (fun E9 w9 hn9 hm9=>?_);refine ⟨_,⟨by omega,dNds_get hn⟩,?_⟩;refine br (fun c2=>?_) (fun c2=>?_)
  ·have c2:kind=2:=by simpa using c2
   rw [if_pos c2] at hF;have hΦ:ownΦ F (.agg (dVal (valN kind lo))) []:=by rw [hF,c2];exact .inr ⟨rfl,rfl,rfl⟩
   exact ⟨.agg (dVal (valN kind lo)),[],ax,rfl,hΦ⟩
  have c2:¬ kind=2:=by simpa using c2
  rw [if_neg c2] at hF;refine br (fun c7=>?_) (fun c7=>?_)
  ·have c7:kind=7:=by simpa using c7
   rw [if_pos c7] at hF;have hrc:=hrc c7;refine loop_i (fun j st=>∃ (e:Nat) (cs:List DV),st=on26St PC ND D K sz ot ⟨kind,at',lo,hi',most,names,es⟩ cs e/\cs=(dVals ((es.take e).map fun e=>firstV ND D f e.to.toNat)).flatten/\e<=es.length/\j=es.length - e) es.length (on26St PC ND D K sz ot ⟨kind,at',lo,hi',most,names,es⟩ [] 0) (weak_bt 3 ⟨0,59,4,some []⟩ rfl rfl rfl (by repeat' (first | exact rfl | exact we_rfl rfl | exact we_int c7 | exact we_tok (Nat.le_refl _) rfl | exact we_tok (Nat.le_refl _) rfl | refine ⟨_,_,rfl,?_,?_⟩)) rfl rfl (by repeat' (first | exact trivial | exact we_rfl rfl | exact we_int c7 | exact we_tok (Nat.le_refl _) rfl | refine ⟨⟨_,rfl,?_⟩,?_⟩))) ⟨0,[],rfl,rfl,by omega,by omega⟩ ?_;rintro j st ⟨e,cs,rfl,hcs,he,rfl⟩;refine br (fun hL=>?_) (fun hL=>?_)
   ·have hlt:e < es.length:=by simpa [hdl] using hL
    obtain ⟨x,hx⟩:∃ x,es[e]? = some x:=⟨_,gE hlt⟩;obtain ⟨hx0,hx1⟩:=hrc x (mG hx)
    have hxb:x.bare=false:=by
     cases hb:x.bare with
     | false=>rfl
     | true=>have:=hbare x (mG hx) hb;omega
    obtain ⟨k,hk,hkl⟩:=(hedge x (mG hx)).to1 hxb;have hek:edN D x=D.getD k 0:=by unfold edN;rw [hk,Int.toNat_natCast]
    have hone:=ih k hkl (by omega) (by omega)
    have hsn:(dVals ((es.take (e + 1)).map fun e=>firstV ND D f e.to.toNat)).flatten=cs ++ dVal (firstV ND D f k):=by
     rw [hcs,take_snoc hx,List.map_append,dVals_map,dVals_map];simp [hk]
    generalize firstV ND D f k=u at hone hsn;obtain ⟨uk,un,us,ul⟩:=u;obtain ⟨en,eb,ea,et,elb,ew,eck,ecn,ese,eca⟩:=x;simp only at hk;subst hk;refine ⟨_,⟨by omega,dEds_get hx⟩,?_⟩;refine drawG_s mo (by decide +kernel) ?_;refine callD_p en93 (hone) ax rfl ?_;refine ⟨⟨⟨List.length_replicate,by simp⟩,by simp [maxLen];omega,by simp;omega⟩,?_⟩;exact ⟨on26St PC ND D K sz ot ⟨kind,at',lo,hi',most,names,es⟩ _ (e + 1),(weak_b 3 rfl (wNA hlt) rfl rfl rfl (wNB hlt)),es.length - (e + 1),by omega,e + 1,_,rfl,hsn.symm,by omega,rfl⟩
   ·have hge:e=es.length:=by have:=hL;simp [hdl] at this;omega
    subst hge;rw [List.take_length] at hcs
    have hΦ:ownΦ F (.agg [.v (.int .i64 7),.v (.int .i64 0),.v (.string .empty),.sl 0 (List.replicate es.length []) (some 0)]) [⟨es.length,59,4,some cs⟩]:=by
     rw [hF,hcs];refine .inl ⟨?_,?_⟩
     ·simp [Val.k,Val.n,Val.s,Val.ks];rfl
     ·simp [Val.ks]
    exact ⟨.agg [.v (.int .i64 7),.v (.int .i64 0),.v (.string .empty),.sl 0 (List.replicate es.length []) (some 0)],[],aL,rfl,hΦ⟩
  have c7:¬ kind=7:=by simpa using c7
  rw [if_neg c7] at hF;refine br (fun c8=>?_) (fun c8=>?_)
  ·have c8:kind=8:=by simpa using c8
   subst c8;obtain ⟨c,x,hc,hx,hp⟩:=hun rfl;rw [if_pos rfl,hc] at hF;rw [hc] at hch;refine call_p en205 (hch) ax rfl ?_;refine ⟨_,⟨Int.natCast_nonneg _,dEds_get hx⟩,?_⟩;refine br (fun cb=>?_) (fun cb=>?_)
   ·have cb:x.bare=false:=by simpa using cb
    obtain ⟨hx0,hx1⟩:=hp cb;obtain ⟨k,hk,hkl⟩:=(hedge x (mG hx)).to1 cb;have hek:edN D x=D.getD k 0:=by unfold edN;rw [hk,Int.toNat_natCast]
    have hone:=ih k hkl (by omega) (by omega);have hF2:F = .mk 8 c emptyB [firstV ND D f k]:=by rw [hF];simp only [tagV,hx,cb];rw [hk];all_goals rfl
    generalize firstV ND D f k=u at hone hF2;obtain ⟨uk,un,us,ul⟩:=u;obtain ⟨en,eb,ea,et,elb,ew,eck,ecn,ese,eca⟩:=x;simp only at hk;subst hk;refine call_p en93 (hone) ax rfl ?_;refine op_litO rfl rfl rfl rfl rfl rfl (hk:=?_)
    have hΦ:ownΦ F (.agg [.v (.int .i64 8),.v (.int .i64 (c:Nat)),.v (.string .empty),.sl 0 (List.replicate 1 []) (some 0)]) [⟨1,59,4,some (dVal (.mk uk un us ul) ++ [])⟩]:=by
     rw [hF2];exact .inl ⟨rfl,rfl⟩
    exact ⟨.agg [.v (.int .i64 8),.v (.int .i64 (c:Nat)),.v (.string .empty),.sl 0 (List.replicate 1 []) (some 0)],[],aL,rfl,hΦ⟩
   ·have cb:x.bare=true:=by simpa using cb
    have hΦ:ownΦ F (.agg (dVal (valN 8 c))) []:=by
     rw [hF];simp only [tagV,hx,cb,if_true];exact .inr ⟨rfl,rfl,rfl⟩
    exact ⟨.agg (dVal (valN 8 c)),[],ax,rfl,hΦ⟩
  ·have c8:¬ kind=8:=by simpa using c8
   rw [if_neg c8] at hF;have hΦ:ownΦ F (.agg (dVal (valN kind 0))) []:=by rw [hF];exact .inr ⟨rfl,rfl,rfl⟩
   exact ⟨.agg (dVal (valN kind 0)),[],ax,rfl,hΦ⟩
end
theorem thB_pos {D:List Nat} {e:Ed} (h:thB D e=true) (hb:e.bare=false):0 < edN D e:=by
 unfold thB at h;rw [hb,Bool.false_or] at h;exact of_decide_eq_true h
theorem fstV_eq {ND:List Nd} {D:List Nat} (h:DepOK ND D) {i:Nat} {n:Nd} (hn:ND[i]? = some n) (h0:0 < D.getD i 0):fstV ND D i=if n.kind=2 then valN 2 n.lo
   else if n.kind=7 then .mk 7 0 emptyB (n.edges.map fun e=>fstV ND D e.to.toNat)
   else if n.kind=8 then (match chooseF D n.edges with | some c=>tagV (fstV ND D) n.edges c | none=>valN 8 0)
   else valN n.kind 0:=by
 obtain ⟨d,hd⟩:∃ d,D.getD i 0=d + 1:=⟨D.getD i 0 - 1,by omega⟩;rw [<- firstV_any h h0 (Nat.le_refl _),hd,firstV,hn];simp only;split
 ·rfl
 ·split
  ·rename_i h7;refine congrArg (Val.mk 7 0 emptyB) (List.map_congr_left fun e he=>?_);obtain ⟨h2,h3⟩:=h.rcd hn h0 h7 e he;exact firstV_any h h2 (by unfold edN at h3;omega)
  ·split
   ·rename_i h8;obtain ⟨c,e,hc,he,hp⟩:=h.uni hn h0 h8;rw [hc];refine tagV_congr fun e' he' hb=>?_;rw [he] at he';cases he';obtain ⟨h2,h3⟩:=hp hb;exact firstV_any h h2 (by unfold edN at h3;omega)
   ·rfl
section
variable (PC:List DV) (ND:List Nd) (D:List Nat) (K:List Bool) (sz T:List Nat) {L:Nat}
theorem two_spec (hO:DepOK ND D) (hok:∀ n∈ND,NdOK L ND.length n) (hsz:∀ n∈ND,n.edges.length<=1099511627776) (hrn:∀ n∈ND,n.kind=2 -> -9223372036854775808<=n.lo/\n.hi<=9223372036854775807) (hlK:K.length=ND.length) (hKs:∀ i n,ND[i]? = some n->K.getD i false=true->sevF n D K=true)
  (hT:∀ i,T.getD i 0≠0->∃ n,ND[i]? = some n/\K.getD i false=true/\T.getD i 0=othE T (othS sz D K n)):∀ (f i:Nat),T.getD i 0≠0->T.getD i 0<=f->T.getD i 0 < 4097->EvP Tryz.prog 94 [.pt (mkD PC ND D K sz T) 0,.v (.int .i64 i)] (.agg (dVal (secondV ND D K f i)))
 | 0,i,h0,h1,_=>by omega
 | f + 1,i,h0,h1,h2=>by
  obtain ⟨n,hn,hKi,hv⟩:=hT i h0;have hi:=(gS hn).1;have hnm:=mG hn;have hN:=hok n hnm;have hsv:=hKs i n hn hKi;have hSec:=secOK_of hN hsv;have hDi:0 < D.getD i 0:=by rw [hO.get i n hn];exact sevF_dep hN hsv
  have hone:=fun k hk hp=>one_f PC ND D K sz T hO hok hsz ND.length k hk hp (hO.le k)
  have hrec:∀ s j,1<=s->T.getD i 0=othE T (s,some j)->EvP Tryz.prog 94 [.pt (mkD PC ND D K sz T) 0,.v (.int .i64 j)] (.agg (dVal (secondV ND D K f j))):=fun s j hs h=>by
   have hj0:T.getD j 0≠0:=fun hj=>h0 (by rw [h];simp only [othE];rw [if_pos hj])
   have hlt:T.getD j 0 < T.getD i 0:=by
    have h':=h;simp only [othE] at h';rw [if_neg hj0] at h';unfold cutM at h';omega
   exact two_spec hO hok hsz hrn hlK hKs hT f j hj0 (by omega) (by omega)
  have hch:=choose_spec PC ND D K sz T hO.len hN (hsz n hnm);have htn:=sturn_spec PC ND D K sz T hO.len hN (hsz n hnm);have hcg:=fun h=>schanged_spec PC ND D K sz T hlK hN h (hsz n hnm);have hun:=hO.uni hn hDi;have hel:=hsz n hnm;have hedge:=hN.edge;have hbare:=hN.bare;have honeE:=hN.one;have hp:=othS_pos sz D K n;have hF:secondV ND D K (f + 1) i=secB (fstV ND D) (secondV ND D K f) D K n:=by rw [secondV,hn]
  have hF1:=fstV_eq hO hn hDi;have hone':=hone i hi hDi;rw [show firstV ND D ND.length i=fstV ND D i from rfl,hF1] at hone'
  have honek:∀ {x:Ed},x∈n.edges->x.bare=false->0 < edN D x->∃ k:Nat,x.to=k/\k < ND.length/\EvP Tryz.prog 93 [.pt (mkD PC ND D K sz T) 0,.v (.int .i64 k)] (.agg (dVal (fstV ND D k))):=fun {x} hx hb h=>by
   obtain ⟨k,hk,hkl⟩:=(hedge x hx).to1 hb;exact ⟨k,hk,hkl,evp_val (hone k hkl (by unfold edN at h;rw [hk,Int.toNat_natCast] at h;exact h))⟩
  rw [hF];clear hF hF1;obtain ⟨kind,at',lo,hi',most,names,es⟩:=n;simp only at hv hun hch htn hcg hel hedge hbare honeE hone' honek;have h7:=hSec.c7;have h8:=hSec.c8;simp only at h7 h8;refine ev_go (P:=Tryz.prog) tt tt_ok 5000 105 [.cell 4 59] Tryz.func94 rfl Tryz.ntmps94 rfl (nL rfl) (fun E9 w9 hn9 hm9=>?_);refine ⟨_,⟨by omega,dNds_get hn⟩,?_⟩;refine br (fun c2=>?_) (fun c2=>?_)
  ·have c2:kind=2:=by simpa using c2
   subst c2;have hlo:lo < hi':=by simpa [sevF] using hsv
   have hr:=hrn _ hnm rfl;simp only at hr;have hw:IntKind.i64.wrap (lo + 1)=lo + 1:=wrap64 (by omega) (by omega);exact ⟨.agg (dVal (valN 2 (lo + 1))),(aI hw),rfl⟩
  have c2:¬ kind=2:=by simpa using c2
  refine br (fun c3=>?_) (fun c3=>?_)
  ·have c3:kind=3:=by simpa using c3
   subst c3;exact ⟨.agg (dVal (.mk 3 0 ⟨#[97]⟩ [])),ax,rfl⟩
  have c3:¬ kind=3:=by simpa using c3
  refine br (fun d5=>?_) (fun c5=>?_)
  ·have c5:kind=5:=by simpa using d5
   subst c5;obtain ⟨x,hx,hxb,_⟩:=honeE (.inl rfl);subst hx
   have hth:thB D x=true:=by
    cases h:thB D x with
    | true=>rfl
    | false=>simp [sevF,manyN,h] at hsv
   obtain ⟨k,hk,hkl,hon⟩:=honek List.mem_cons_self hxb (thB_pos hth hxb)
   have hG:secB (fstV ND D) (secondV ND D K f) D K ⟨5,at',lo,hi',most,names,[x]⟩ = .mk 5 0 emptyB [fstV ND D k]:=by
    show Val.mk 5 0 emptyB [fstV ND D x.to.toNat]=_;rw [hk,Int.toNat_natCast]
   rw [hG];generalize fstV ND D k=u at hon;obtain ⟨uk,un,us,ul⟩:=u;obtain ⟨en,eb,ea,et,elb,ew,eck,ecn,ese,eca⟩:=x;simp only at hk;subst hk;refine ⟨_,⟨by omega,rfl⟩,?_⟩;refine call_p en93 (hon) ax rfl ?_;exact ⟨.agg (dVal (.mk 5 0 emptyB [.mk uk un us ul])),ax,rfl⟩
  have c5:¬ kind=5:=by simpa using c5
  refine br (fun c6=>?_) (fun c6=>?_)
  ·have c6:kind=6:=by simpa using c6
   subst c6;obtain ⟨x,hx,hxb,_⟩:=honeE (.inr rfl);subst hx
   have hth:thB D x=true:=by
    cases h:thB D x with
    | true=>rfl
    | false=>simp [sevF,manyN,h] at hsv
   obtain ⟨k,hk,hkl,hon⟩:=honek List.mem_cons_self hxb (thB_pos hth hxb)
   have hG:secB (fstV ND D) (secondV ND D K f) D K ⟨6,at',lo,hi',most,names,[x]⟩ = .mk 6 0 emptyB [fstV ND D k]:=by
    show Val.mk 6 0 emptyB [fstV ND D x.to.toNat]=_;rw [hk,Int.toNat_natCast]
   rw [hG];generalize fstV ND D k=u at hon;obtain ⟨uk,un,us,ul⟩:=u;obtain ⟨en,eb,ea,et,elb,ew,eck,ecn,ese,eca⟩:=x;simp only at hk;subst hk;refine ⟨_,⟨by omega,rfl⟩,?_⟩;refine call_p en93 (hon) ax rfl ?_;exact ⟨.agg (dVal (.mk 6 0 emptyB [.mk uk un us ul])),ax,rfl⟩
  have c6:¬ kind=6:=by simpa using c6
  refine br (fun c7=>?_) (fun c7=>?_)
  ·have c7:kind=7:=by simpa using c7
   subst c7;have hcg:=hcg rfl;obtain ⟨c,x,hc,hx,hxb⟩:=h7 rfl;rw [hc] at hcg;rw [show othS sz D K ⟨7,at',lo,hi',most,names,es⟩=(sumX sz c es 0 1,some x.to.toNat) by simp [othS,hc,hx]] at hv;have htwo:=hrec _ _ (sumX_ge (by omega)) hv;obtain ⟨k,hk,hkl⟩:=(hedge x (mG hx)).to1 hxb;have hcl:=(gS hx).1
   have hG:secB (fstV ND D) (secondV ND D K f) D K ⟨7,at',lo,hi',most,names,es⟩ = .mk 7 0 emptyB ((es.map fun e=>fstV ND D e.to.toNat).set c (secondV ND D K f k)):=by
    show (match chgF K es with | some c=>(match es[c]? with | some e=>Val.mk 7 0 emptyB ((es.map fun e:Ed=>fstV ND D e.to.toNat).set c (secondV ND D K f e.to.toNat)) | none=>valN 7 0) | none=>valN 7 0)=_;rw [hc];simp only [hx];rw [hk,Int.toNat_natCast]
   rw [hG];rw [hk,Int.toNat_natCast] at htwo;have hone7:EvF Tryz.prog 93 [.pt (mkD PC ND D K sz T) 0,.v (.int .i64 i)] [] [] (fun r _ tks=>ownΦ (.mk 7 0 emptyB (es.map fun e=>fstV ND D e.to.toNat)) r tks):=hone';have hkl:(es.map fun e=>fstV ND D e.to.toNat).length=es.length:=List.length_map _;generalize (es.map fun e=>fstV ND D e.to.toNat)=ks at hone7 hkl;generalize secondV ND D K f k=u at htwo;have hflat:=flat_setU (x:=dVal u) (dVals_cells ks) (e:=c) (by rw [dVals_len];omega);rw [<- dVals_set] at hflat;have hsc:=dVals_cells (ks.set c u);have hsl:(dVals (ks.set c u)).length=ks.length:=by rw [dVals_len,List.length_set]
   obtain ⟨uk,un,us,ul⟩:=u;obtain ⟨en,eb,ea,et,elb,ew,eck,ecn,ese,eca⟩:=x;simp only at hk;subst hk;refine call_f en93 rfl hone7 ax (fun r1 tks hr=>?_);rcases hr with ⟨rfl,rfl⟩ | ⟨h,_⟩
   ·refine call_p en206 (hcg) ax rfl ?_;refine drawG_s mo (by decide +kernel) ?_;refine ⟨_,⟨Int.natCast_nonneg _,dEds_get hx⟩,?_⟩;refine callD_own (e:=4) (es:=List.replicate ks.length []) (m:=ks.length) en94 rfl htwo ax ⟨rfl,rfl,rfl⟩ ⟨rfl,rfl,rfl⟩ rfl rfl rfl rfl rfl rfl (by decide) rfl rfl rfl List.length_replicate ⟨Int.natCast_nonneg _,by show (c:Int) < _;omega⟩ rfl ?_;refine ⟨_,wk_own (j:=2) (o:=3) (k:=0) (ty:=59) (e:=4) (ocs:=[.v (.int .i64 7),.v (.int .i64 0),.v (.string emptyB),.sl 0 (List.replicate ks.length []) (some 0)]) (n:=ks.length) (es:=List.replicate ks.length []) (ns:=dVals (ks.set c (.mk uk un us ul))) ?_ hsc hsl rfl rfl List.length_replicate,?_⟩
    ·rw [hflat];rfl
    ·exact ⟨.agg (dVal (.mk 7 0 emptyB (ks.set c (.mk uk un us ul)))),ax,rfl⟩
   ·have h:ks=[]:=h;rw [h] at hkl;simp only [List.length_nil] at hkl;omega
  have c7:¬ kind=7:=by simpa using c7
  refine br (fun c8=>?_) (fun c8=>?_)
  ·have c8:kind=8:=by simpa using c8
   subst c8
   cases ht:turnF D es with
   | some c=>
    rw [ht] at htn;obtain ⟨x,hx,hth⟩:=turn_some ht
    have hG:secB (fstV ND D) (secondV ND D K f) D K ⟨8,at',lo,hi',most,names,es⟩=tagV (fstV ND D) es c:=by
     show (match turnF D es with | some c=>tagV (fstV ND D) es c | none=>(match chooseF D es with | some c=>(match es[c]? with | some e=>Val.mk 8 c emptyB [secondV ND D K f e.to.toNat] | none=>valN 8 c) | none=>valN 8 0))=_;rw [ht]
    rw [hG];refine call_p en207 (htn) ax rfl ?_;refine ⟨_,⟨Int.natCast_nonneg _,dEds_get hx⟩,?_⟩;refine br (fun cb=>?_) (fun cb=>?_)
    ·have cb:x.bare=false:=by simpa using cb
     obtain ⟨k,hk,hkl,hon⟩:=honek (mG hx) cb (thB_pos hth cb);rw [show tagV (fstV ND D) es c = .mk 8 c emptyB [fstV ND D k] by simp only [tagV,hx,cb];rw [hk];rfl];generalize fstV ND D k=u at hon;obtain ⟨uk,un,us,ul⟩:=u;obtain ⟨en,eb,ea,et,elb,ew,eck,ecn,ese,eca⟩:=x;simp only at hk;subst hk;refine call_p en93 (hon) ax rfl ?_;exact ⟨.agg (dVal (.mk 8 c emptyB [.mk uk un us ul])),ax,rfl⟩
    ·have cb:x.bare=true:=by simpa using cb
     rw [show tagV (fstV ND D) es c=valN 8 c by simp only [tagV,hx,cb];rfl];exact ⟨.agg (dVal (valN 8 c)),ax,rfl⟩
   | none=>
    rw [ht] at htn;obtain ⟨c,x,hc,hx,hxb⟩:=h8 rfl ht;rw [show othS sz D K ⟨8,at',lo,hi',most,names,es⟩=(1,some x.to.toNat) by simp [othS,ht,hc,hx]] at hv;have htwo:=hrec _ _ (Nat.le_refl 1) hv;obtain ⟨k,hk,hkl⟩:=(hedge x (mG hx)).to1 hxb
    have hG:secB (fstV ND D) (secondV ND D K f) D K ⟨8,at',lo,hi',most,names,es⟩ = .mk 8 c emptyB [secondV ND D K f k]:=by
     show (match turnF D es with | some c=>tagV (fstV ND D) es c | none=>(match chooseF D es with | some c=>(match es[c]? with | some e=>Val.mk 8 c emptyB [secondV ND D K f e.to.toNat] | none=>valN 8 c) | none=>valN 8 0))=_;rw [ht];simp only [hc,hx];rw [hk,Int.toNat_natCast]
    rw [hG];rw [hk,Int.toNat_natCast] at htwo;have hone8:EvF Tryz.prog 93 [.pt (mkD PC ND D K sz T) 0,.v (.int .i64 i)] [] [] (fun r _ tks=>ownΦ (match chooseF D es with | some c=>tagV (fstV ND D) es c | none=>valN 8 0) r tks):=hone';rw [hc] at hone8;simp only at hone8;rw [show tagV (fstV ND D) es c = .mk 8 c emptyB [fstV ND D k] by simp only [tagV,hx,hxb];rw [hk];rfl] at hone8;generalize fstV ND D k=u0 at hone8;generalize secondV ND D K f k=u at htwo;have hflat:=flat_setU (x:=dVal u) (dVals_cells [u0]) (e:=0) (by rw [dVals_len];simp);rw [<- dVals_set] at hflat;have hsc:=dVals_cells ([u0].set 0 u);have hsl:(dVals ([u0].set 0 u)).length=1:=by rw [dVals_len,List.length_set];all_goals rfl
    obtain ⟨uk,un,us,ul⟩:=u;obtain ⟨en,eb,ea,et,elb,ew,eck,ecn,ese,eca⟩:=x;simp only at hk;subst hk;refine call_p en207 (htn) ax rfl ?_;refine call_f en93 rfl hone8 ax (fun r1 tks hr=>?_);rcases hr with ⟨rfl,rfl⟩ | ⟨h,_⟩
    ·refine drawG_s mo (by decide +kernel) ?_;refine ⟨_,⟨Int.natCast_nonneg _,dEds_get hx⟩,?_⟩;refine callD_own (e:=4) (es:=List.replicate 1 []) (m:=1) en94 rfl htwo ax ⟨rfl,rfl,rfl⟩ ⟨rfl,rfl,rfl⟩ rfl rfl rfl rfl rfl rfl (by decide) rfl rfl rfl List.length_replicate ⟨by omega,by omega⟩ rfl ?_;refine ⟨_,wk_own (j:=2) (o:=3) (k:=0) (ty:=59) (e:=4) (ocs:=[.v (.int .i64 8),.v (.int .i64 (c:Nat)),.v (.string emptyB),.sl 0 (List.replicate 1 []) (some 0)]) (n:=1) (es:=List.replicate 1 []) (ns:=dVals ([u0].set 0 (.mk uk un us ul))) ?_ hsc hsl rfl rfl List.length_replicate,?_⟩
     ·rw [hflat];rfl
     ·exact ⟨.agg (dVal (.mk 8 c emptyB [.mk uk un us ul])),ax,rfl⟩
    ·have h : [u0]=[]:=h;cases h
  ·have c8:¬ kind=8:=by simpa using c8
   have hG:secB (fstV ND D) (secondV ND D K f) D K ⟨kind,at',lo,hi',most,names,es⟩=valN kind 1:=by
    unfold secB;simp only;rw [if_neg c2,if_neg c3,if_neg (by omega),if_neg c7,if_neg c8]
   rw [hG];exact ⟨.agg (dVal (valN kind 1)),ax,rfl⟩
end
def okN (l:List Nat) (i:Int):Bool:=decide (0<=i) && (decide (0 < l.getD i.toNat 0) && decide (l.getD i.toNat 0 < 4097))
theorem okN_iff {l:List Nat} {i:Int}:okN l i=true↔∃ j:Nat,i=j/\l.getD j 0≠0/\l.getD j 0 < 4097:=by
 unfold okN;rw [Bool.and_eq_true,Bool.and_eq_true];constructor
 ·rintro ⟨h1,h2,h3⟩;have h1:=of_decide_eq_true h1;have h2:=of_decide_eq_true h2;exact ⟨i.toNat,by omega,by omega,of_decide_eq_true h3⟩
 ·rintro ⟨j,rfl,h2,h3⟩;rw [Int.toNat_natCast];exact ⟨decide_eq_true (by omega),decide_eq_true (by omega),decide_eq_true h3⟩
theorem sfits_spec (l:List Nat) (i:Int) (hl:l.length<=1099511627776):EvP Tryz.prog 92 [.sl 1 (dInts l) none,.v (.int .i64 i)] (.v (.bool (okN l i))):=by
 have hdl:=dInts_len l;by_cases h:0<=i/\i < l.length
 ·obtain ⟨j,rfl⟩:∃ j:Nat,i=j:=⟨i.toNat,by omega⟩;obtain ⟨z,hz⟩:∃ z,l[j]? = some z:=⟨_,gE (by omega)⟩
  have hE:okN l j=(decide (0 < z) && decide (z < 4097)):=by
   unfold okN;rw [Int.toNat_natCast,List.getD_eq_getElem?_getD,hz,decide_eq_true (by omega),Bool.true_and];rfl
  rw [hE];refine ev_go (P:=Tryz.prog) tt tt_ok 5000 27 [.tmp 4] Tryz.func92 rfl Tryz.ntmps92 rfl (nL rfl) (fun E9 w9 hn9 hm9=>?_);refine br (fun c=>?_) (fun c=>?_)
  ·refine ⟨_,⟨Int.natCast_nonneg _,dInts_get hz⟩,?_⟩;refine br (fun c2=>?_) (fun c2=>?_)
   ·have c2:0 < z:=by simpa [lastG,pickB] using c2
    refine ⟨_,⟨Int.natCast_nonneg _,dInts_get hz⟩,?_⟩;refine (congrArg (fun b=>DV.v (.bool b)) ?_:_=_);rw [decide_eq_true c2];simp [pickB];omega
   ·have c2:¬ 0 < z:=by simpa [lastG,pickB] using c2
    refine (congrArg (fun b=>DV.v (.bool b)) ?_:_=_);rw [decide_eq_false c2];simp [pickB]
  ·exfalso;have:(j:Int) < l.length:=by omega
   simp [hdl,pickB_and] at c;omega
 ·have hE:okN l i=false:=by
   cases hk:okN l i with
   | false=>rfl
   | true=>
    obtain ⟨j,rfl,h2,_⟩:=okN_iff.1 hk;rw [List.getD_eq_getElem?_getD,List.getElem?_eq_none (by omega)] at h2;exact (h2 rfl).elim
  rw [hE];refine ev_go (P:=Tryz.prog) tt tt_ok 5000 27 [.tmp 4] Tryz.func92 rfl Tryz.ntmps92 rfl (nL rfl) (fun E9 w9 hn9 hm9=>?_);refine br (fun c=>?_) (fun c=>?_)
  ·exfalso;simp [hdl,pickB_and] at c;omega
  ·exact (rfl:_=_)
theorem dep_in {ND:List Nd} {D:List Nat} (h:DepOK ND D) {j:Nat} (h0:0 < D.getD j 0):j < ND.length:=by
 rcases Nat.lt_or_ge j ND.length with h1 | h1
 ·exact h1
 ·rw [List.getD_eq_getElem?_getD,List.getElem?_eq_none (by rw [h.len];exact h1)] at h0;simp at h0
abbrev depT (ND:List Nd):List Nat:=depN ND ND.length
abbrev sevT (ND:List Nd):List Bool:=sevS ND (depT ND)
abbrev fszT (ND:List Nd):List Nat:=szT ND (depT ND)
abbrev sszT (ND:List Nd):List Nat:=otT (fszT ND) (depT ND) (sevT ND) ND
theorem sone_spec {S:Sch} {ND:List Nd} {PC:List DV} (hP:PlanR S ND PC) (sz ot:List Nat) (K:List Bool) {j:Nat} (h:(fszT ND).getD j 0≠0):EvP Tryz.prog 93 [.pt (mkD PC ND (depT ND) K sz ot) 0,.v (.int .i64 j)] (.agg (dVal (fstV ND (depT ND) j))):=by
 have h0:=(szT_pos (depOK ND)).1.1 (Nat.pos_of_ne_zero h);exact evp_val (one_f PC ND (depT ND) K sz ot (depOK ND) hP.ok hP.esz ND.length j (dep_in (depOK ND) h0) h0 ((depOK ND).le j))
theorem sevT_fix {ND:List Nd} {i:Nat} {n:Nd} (hn:ND[i]? = some n) (h:(sevT ND).getD i false=true):sevF n (depT ND) (sevT ND)=true:=by
 have h:(sevS ND (depT ND)).getD i false=true:=h;rw [<- sevS_fix,List.getD_eq_getElem?_getD,List.getElem?_map,hn] at h;exact h
theorem stwo_spec {S:Sch} {ND:List Nd} {PC:List DV} (hP:PlanR S ND PC) (hrn:∀ n∈ND,n.kind=2 -> -9223372036854775808<=n.lo/\n.hi<=9223372036854775807) {j:Nat} (h:(sszT ND).getD j 0≠0) (h2:(sszT ND).getD j 0 < 4097) :
  EvP Tryz.prog 94 [.pt (mkD PC ND (depT ND) (sevT ND) (fszT ND) (sszT ND)) 0,.v (.int .i64 j)] (.agg (dVal (secV ND (depT ND) (sevT ND) j))):=
 two_spec PC ND (depT ND) (sevT ND) (fszT ND) (sszT ND) (depOK ND) hP.ok hP.esz hrn (sevN_len ND _ _) (fun i n hn h=>sevT_fix hn h) (fun i h=>otT_get h) 4096 j h (by omega) h2
theorem sFirst_spec {S:Sch} {ND:List Nd} {PC:List DV} (hP:PlanR S ND PC) (i:Int) :
  EvP Tryz.prog 24 [.pt PC 0,.v (.int .i64 i)] (.tup [.agg (dVal (if okN (fszT ND) i=true then fstV ND (depT ND) i.toNat else zeroV)),.v (.bool (okN (fszT ND) i))]):=by
 have hm:=smake_spec PC ND hP;have hnl:=hP.nl;have hf:=sfits_spec (fszT ND) i (by rw [szT_len];exact hnl);have hone:=fun (j:Nat) h=>sone_spec hP (fszT ND) (sszT ND) (sevT ND) (j:=j) h
 cases hk:okN (fszT ND) i with
 | false=>
  rw [hk] at hf;refine ev_go (P:=Tryz.prog) tt tt_ok 5000 20 [.cell 4 59,.tmp 5] Tryz.func24 rfl Tryz.ntmps24 rfl (nL rfl) (fun E9 w9 hn9 hm9=>?_);refine call_p en91 (hm) ax rfl ?_;refine call_p en92 (hf) ax rfl ?_;exact ⟨.tup [.agg (dVal zeroV),.v (.bool false)],ax,rfl⟩
 | true=>
  rw [hk] at hf;obtain ⟨j,rfl,h1,h2⟩:=okN_iff.1 hk;have hone:=hone j h1;rw [if_pos rfl,Int.toNat_natCast];generalize fstV ND (depT ND) j=u at hone;obtain ⟨uk,un,us,ul⟩:=u;refine ev_go (P:=Tryz.prog) tt tt_ok 5000 20 [.cell 4 59,.tmp 5] Tryz.func24 rfl Tryz.ntmps24 rfl (nL rfl) (fun E9 w9 hn9 hm9=>?_);refine call_p en91 (hm) ax rfl ?_;refine call_p en92 (hf) ax rfl ?_;refine call_p en93 (hone) ax rfl ?_;exact ⟨.tup [.agg (dVal (.mk uk un us ul)),.v (.bool true)],ax,rfl⟩
theorem sSecond_spec {S:Sch} {ND:List Nd} {PC:List DV} (hP:PlanR S ND PC) (hrn:∀ n∈ND,n.kind=2 -> -9223372036854775808<=n.lo/\n.hi<=9223372036854775807) (i:Int) :
  EvP Tryz.prog 25 [.pt PC 0,.v (.int .i64 i)] (.tup [.agg (dVal (if okN (sszT ND) i=true then secV ND (depT ND) (sevT ND) i.toNat else zeroV)),.v (.bool (okN (sszT ND) i))]):=by
 have hm:=smake_spec PC ND hP;have hnl:=hP.nl;have hf:=sfits_spec (sszT ND) i (by rw [otT_len];exact hnl);have htwo:=fun (j:Nat) h h2=>stwo_spec hP hrn (j:=j) h h2
 cases hk:okN (sszT ND) i with
 | false=>
  rw [hk] at hf;refine ev_go (P:=Tryz.prog) tt tt_ok 5000 20 [.cell 4 59,.tmp 5] Tryz.func25 rfl Tryz.ntmps25 rfl (nL rfl) (fun E9 w9 hn9 hm9=>?_);refine call_p en91 (hm) ax rfl ?_;refine call_p en92 (hf) ax rfl ?_;exact ⟨.tup [.agg (dVal zeroV),.v (.bool false)],ax,rfl⟩
 | true=>
  rw [hk] at hf;obtain ⟨j,rfl,h1,h2⟩:=okN_iff.1 hk;have htwo:=htwo j h1 h2;rw [if_pos rfl,Int.toNat_natCast];generalize secV ND (depT ND) (sevT ND) j=u at htwo;obtain ⟨uk,un,us,ul⟩:=u;refine ev_go (P:=Tryz.prog) tt tt_ok 5000 20 [.cell 4 59,.tmp 5] Tryz.func25 rfl Tryz.ntmps25 rfl (nL rfl) (fun E9 w9 hn9 hm9=>?_);refine call_p en91 (hm) ax rfl ?_;refine call_p en92 (hf) ax rfl ?_;refine call_p en94 (htwo) ax rfl ?_;exact ⟨.tup [.agg (dVal (.mk uk un us ul)),.v (.bool true)],ax,rfl⟩
abbrev mkN:List DV:=[.v (.pointer none),.v (.slice none 0 0),.sl 1 [] none,.sl 1 [] none,.sl 1 [] none,.sl 1 [] none]
abbrev nl1:List DV:=[.v (.pointer none),.v (.slice none 0 0),.sl 1 [] none,.sl 1 [] none,.v (.slice none 0 0),.v (.slice none 0 0)]
abbrev nl2:List DV:=[.v (.pointer none),.v (.slice none 0 0),.sl 1 [] none,.sl 1 [] none,.ms 1 1 0 0 0,.ms 2 1 0 0 0]
abbrev nl1St:St:=⟨[(0,⟨[],.v (.pointer none)⟩),(3,⟨[],.loc 0 0⟩),(4,⟨[],.v (.int .i64 0)⟩),(22,⟨[],.v (.int .i64 0)⟩),(23,⟨[],.v (.int .i64 0)⟩)],[nl1],[]⟩
abbrev nl2St (d:Int):St:=⟨[(0,⟨[],.v (.pointer none)⟩),(3,⟨[],.loc 0 0⟩),(65,⟨[],.v (.int .i64 1)⟩),(66,⟨[],.v (.int .i64 d)⟩)],[nl2,[],[]],[]⟩
abbrev nl3St (d:Int):St:=⟨[(0,⟨[],.v (.pointer none)⟩),(3,⟨[],.loc 0 0⟩),(65,⟨[],.v (.int .i64 1)⟩),(66,⟨[],.v (.int .i64 d)⟩),(8,⟨[],.v (.int .i64 d)⟩),(72,⟨[],.v (.slice none 0 0)⟩),(73,⟨[],.v (.int .i64 0)⟩),(74,⟨[],.v (.int .i64 0)⟩)],[nl2,[],[]],[]⟩
abbrev nl4St (c:Bool):St:=⟨[(0,⟨[],.v (.pointer none)⟩),(3,⟨[],.loc 0 0⟩),(11,⟨[],.v (.bool c)⟩)],[nl2,[],[]],[]⟩
abbrev nl5St:St:=⟨[(0,⟨[],.v (.pointer none)⟩),(3,⟨[],.loc 0 0⟩),(11,⟨[],.v (.bool false)⟩),(107,⟨[],.v (.slice none 0 0)⟩),(108,⟨[],.v (.int .i64 0)⟩),(109,⟨[],.v (.int .i64 0)⟩)],[nl2,[],[]],[]⟩
theorem smake_nil:EvP Tryz.prog 91 [.v (.pointer none)] (.pt mkN 0):=by
 refine ev_go (P:=Tryz.prog) tt tt_ok 5000 153 [.tmp 2] Tryz.func91 rfl Tryz.ntmps91 rfl (nL rfl) (fun E9 w9 hn9 hm9=>?_);refine call_p en200 (depths_nil) ax rfl ?_;refine call_p en201 (severals_nil) ax rfl ?_;refine call_p en202 (plen_nil) ax rfl ?_;refine loop_i (fun _ st=>st=nl1St) 0 nl1St (weak_b 1 rfl wA rfl rfl rfl wB) rfl ?_;rintro _ _ rfl;apply drawG_rs (.op 0 (.op 1 (.op 2 (.op 5 (.ev 3 (.ev 4 (.ev 6 (.op 8 (.op 9 (.ev 7 (.ev 10 (.op 11 (.op 12 (.ev 13 .fin .stop))) .stop) (.ev 10 (.ev 7 (.op 11 (.op 12 (.ev 13 .fin .stop))) .stop) .stop)))) .stop) (.ev 6 (.ev 4 (.op 8 (.op 9 (.ev 7 (.ev 10 (.op 11 (.op 12 (.ev 13 .fin .stop))) .stop) (.ev 10 (.ev 7 (.op 11 (.op 12 (.ev 13 .fin .stop))) .stop) .stop)))) (.ev 7 (.ev 4 (.op 8 (.op 9 (.ev 10 (.op 11 (.op 12 (.ev 13 .fin .stop))) .stop))) .stop) .stop)) .stop)) .stop))))) 1 2 mo (by decide +kernel);·repeat' (first | refine callD_p en202 (plen_nil) ax rfl ?_ | exact ⟨rfl,by omega,by omega,by omega⟩ | exact Or.inr ⟨congrArg (fun z=>[_,z,z]) (rep_ren _ _).symm,rfl,by repeat' (first | exact trivial | refine ⟨rfl,?_⟩)⟩ | exact trivial | exact Or.inl (Or.inl rfl) | exact Or.inl endS | exact endR | refine ⟨?_,?_⟩)
 ·exact (rfl:_=_)
 refine loop_i (fun j st=>∃ d:Nat,st=nl2St d/\d<=1/\j=1 - d) 1 (nl2St 0) (weak_b 3 rfl wA rfl rfl rfl wB) ⟨0,rfl,by omega,by omega⟩ ?_;rintro j st ⟨d,rfl,hd,rfl⟩;refine br (fun h=>?_) (fun _=>?_)
 ·obtain rfl:d=0:=by simp at h;omega
  refine loop_i (fun _ st=>st=nl3St 0) 0 (nl3St 0) (weak_b 3 rfl wA rfl rfl rfl wB) rfl ?_;rintro _ _ rfl;exact ⟨nl2St 1,(weak_b 3 rfl wA rfl rfl rfl wB),0,by omega,1,rfl,by omega,rfl⟩
 ·refine loop_i (fun j st=>∃ c:Bool,st=nl4St c/\j=if c=true then 1 else 0) 1 (nl4St true) (weak_b 3 rfl wA rfl rfl rfl wB) ⟨true,rfl,rfl⟩ ?_;rintro j st ⟨c,rfl,rfl⟩;refine br (fun h=>?_) (fun h=>?_)
  ·have h:c=true:=h;subst h;refine loop_i (fun _ st=>st=nl5St) 0 nl5St (weak_b 3 rfl wA rfl rfl rfl wB) rfl ?_;rintro _ _ rfl;exact ⟨nl4St false,(weak_b 3 rfl wA rfl rfl rfl wB),0,by simp,false,rfl,rfl⟩
  ·exact ⟨.pt mkN 0,Or.inr ⟨0,_,rfl,Nat.zero_le _,rfl,⟨_,_,rfl,ax,_,_,rfl,ax,_,_,rfl,ax,_,_,rfl,ax,_,_,rfl,ms_n (r:=[]) rfl (Nat.zero_le _) rfl,_,_,rfl,ms_n (r:=[]) rfl (Nat.zero_le _) rfl,rfl⟩⟩,rfl⟩
theorem sFirst_nil (i:Int):EvP Tryz.prog 24 [.v (.pointer none),.v (.int .i64 i)] (.tup [.agg (dVal zeroV),.v (.bool false)]):=by
 have hf:=sfits_spec [] i (by simp)
 rw [show okN [] i=false by
  cases hk:okN [] i with
  | false=>rfl
  | true=>obtain ⟨j,_,h,_⟩:=okN_iff.1 hk;simp at h] at hf
 refine ev_go (P:=Tryz.prog) tt tt_ok 5000 20 [.cell 4 59,.tmp 5] Tryz.func24 rfl Tryz.ntmps24 rfl (nL rfl) (fun E9 w9 hn9 hm9=>?_);refine call_p en91 (smake_nil) ax rfl ?_;refine call_p en92 (hf) ax rfl ?_;exact ⟨.tup [.agg (dVal zeroV),.v (.bool false)],ax,rfl⟩
section
variable (a b:Nat) (A B:List (List DV)) (ND:List Nd) (z:Int) (D M S O:List Nat) (K:List Bool) {L:Nat}
theorem tagged26_of {F:Nat->Val} {n:Nd} {c:Nat} {x:Ed} (hn:NdOK L ND.length n) (hx:n.edges[c]? = some x) (hel:n.edges.length<=1099511627776)
  (ih:x.bare=false->∀ k:Nat,x.to=k->EvP Tryz.prog 27 [.agg (w26 a b A B ND z D M S O),.v (.int .i64 k)] (.agg (dVal (F k)))) :
  EvP Tryz.prog 95 [.agg (w26 a b A B ND z D M S O),.agg (dNd n),.v (.int .i64 c)] (.agg (dVal (tagV F n.edges c))):=by
 have hxo:=hn.edge x (mG hx);obtain ⟨kind,at',lo,hi,most,names,es⟩:=n;simp only at hx hel ⊢
 cases hb:x.bare with
 | false=>
  obtain ⟨k,hk,hkl⟩:=hxo.to1 hb;have hih:=ih hb k hk;clear ih;rw [show tagV F es c = .mk 8 c emptyB [F k] by simp only [tagV,hx,hb];rw [hk];rfl];generalize F k=u at hih;obtain ⟨uk,un,us,ul⟩:=u;obtain ⟨en,eb,ea,et,elb,ew,eck,ecn,ese,eca⟩:=x;simp only at hk hb;subst hk hb;refine ev_go (P:=Tryz.prog) tt tt_ok 5000 28 [.cell 6 59] Tryz.func95 rfl Tryz.ntmps95 rfl (nL rfl) (fun E9 w9 hn9 hm9=>?_);refine ⟨_,⟨Int.natCast_nonneg _,dEds_get hx⟩,?_⟩;refine drawG_s mo (by decide +kernel) ?_;refine ⟨_,⟨Int.natCast_nonneg _,dEds_get hx⟩,?_⟩;refine callD_p en27 (hih) ax rfl ?_;exact ⟨.agg (dVal (.mk 8 c emptyB [.mk uk un us ul])),ax,rfl⟩
 | true=>
  rw [show tagV F es c=valN 8 c by simp only [tagV,hx,hb];rfl];obtain ⟨en,eb,ea,et,elb,ew,eck,ecn,ese,eca⟩:=x;simp only at hb;subst hb;refine ev_go (P:=Tryz.prog) tt tt_ok 5000 28 [.cell 6 59] Tryz.func95 rfl Tryz.ntmps95 rfl (nL rfl) (fun E9 w9 hn9 hm9=>?_);refine ⟨_,⟨Int.natCast_nonneg _,dEds_get hx⟩,?_⟩;exact ⟨.agg (dVal (valN 8 c)),ax,rfl⟩
abbrev ft26St (n:Nd) (vs:List Val) (e:Nat):St:=
 ⟨[(2,⟨[],.loc 0 0⟩),(4,⟨[],.loc 1 0⟩),(5,⟨[],.loc 2 0⟩),(6,⟨[],.loc 3 0⟩),(7,⟨[],.v (.int .i64 e)⟩)],[w26 a b A B ND z D M S O,zVal,dNd n,[.v (.int .i64 7),.v (.int .i64 0),.v (.string .empty),.sl 4 (dVals vs) (some 0)]],[⟨e,59,4,none⟩]⟩
theorem dVals_app (l:List Val) (v:Val):dVals (l ++ [v])=dVals l ++ [dVal v]:=by rw [dVals_map,dVals_map];simp
theorem first26_spec (hO:DepOK ND D) (hok:∀ n∈ND,NdOK L ND.length n) (hsz:∀ n∈ND,n.edges.length<=1099511627776):∀ (f i:Nat),i < ND.length->0 < D.getD i 0->D.getD i 0<=f->EvP Tryz.prog 27 [.agg (w26 a b A B ND z D M S O),.v (.int .i64 i)] (.agg (dVal (firstV ND D f i)))
 | 0,i,_,h0,h1=>by omega
 | f + 1,i,hi,h0,h1=>by
  have ih:=fun j hj h0 h1=>first26_spec hO hok hsz f j hj h0 h1;obtain ⟨n,hn⟩:∃ n,ND[i]? = some n:=⟨_,gE hi⟩;have hnm:=mG hn;have hN:=hok n hnm;have hrc:=hO.rcd hn h0;have hun:=hO.uni hn h0;have hch:=tag26_spec a b A B ND z D M S O (-1) hO.len hN (hsz n hnm);rw [tagR_choose] at hch;have hel:=hsz n hnm;have hedge:=hN.edge;have hbare:=hN.bare
  have htd:∀ {c:Nat} {x:Ed},n.edges[c]? = some x->(x.bare=false->0 < edN D x/\edN D x < D.getD i 0)->EvP Tryz.prog 95 [.agg (w26 a b A B ND z D M S O),.agg (dNd n),.v (.int .i64 c)] (.agg (dVal (tagV (firstV ND D f) n.edges c))):=fun {c x} hx hp=>tagged26_of a b A B ND z D M S O (L:=L) hN hx hel fun hb k hk=>by
   obtain ⟨h2,h3⟩:=hp hb;unfold edN at h2 h3;rw [hk,Int.toNat_natCast] at h2 h3;exact ih k (dep_in hO h2) h2 (by omega)
  rw [show firstV ND D (f + 1) i=(if n.kind=2 then valN 2 n.lo
   else if n.kind=7 then .mk 7 0 emptyB (n.edges.map fun e=>firstV ND D f e.to.toNat)
   else if n.kind=8 then (match chooseF D n.edges with | some c=>tagV (firstV ND D f) n.edges c | none=>valN 8 0)
   else valN n.kind 0) by rw [firstV,hn];rfl]
  generalize D.getD i 0=di at hrc hun h1 htd;obtain ⟨kind,at',lo,hi',most,names,es⟩:=n;simp only at hrc hun hch hedge hel hbare htd;have hdl:=dEds_len es;by_cases c2:kind=2
  ·subst c2;refine ev_go (P:=Tryz.prog) tt tt_ok 5000 56 [.cell 4 59] Tryz.func27 rfl Tryz.ntmps27 rfl (nL rfl) (fun E9 w9 hn9 hm9=>?_);refine ⟨_,⟨by omega,dNds_get hn⟩,?_⟩;exact ⟨.agg (dVal (valN 2 lo)),ax,rfl⟩
  rw [if_neg c2];by_cases c7:kind=7
  ·subst c7;have hrc:=hrc rfl;rw [if_pos rfl];refine ev_go (P:=Tryz.prog) tt tt_ok 5000 56 [.cell 4 59] Tryz.func27 rfl Tryz.ntmps27 rfl (nL rfl) (fun E9 w9 hn9 hm9=>?_);refine ⟨_,⟨by omega,dNds_get hn⟩,?_⟩;refine loop_i (fun j st=>∃ e:Nat,st=ft26St a b A B ND z D M S O ⟨7,at',lo,hi',most,names,es⟩ ((es.take e).map fun e=>firstV ND D f e.to.toNat) e/\e<=es.length/\j=es.length - e) es.length (ft26St a b A B ND z D M S O ⟨7,at',lo,hi',most,names,es⟩ [] 0) (weak_bt 4 ⟨0,59,4,none⟩ rfl rfl rfl (by repeat' (first | exact rfl | exact we_rfl rfl | exact we_tok (Nat.le_refl _) rfl | exact we_tok (Nat.le_refl _) rfl | refine ⟨_,_,rfl,?_,?_⟩)) rfl rfl wTB) ⟨0,rfl,by omega,by omega⟩ ?_;rintro j st ⟨e,rfl,he,rfl⟩;refine br (fun hL=>?_) (fun hL=>?_)
   ·have hlt:e < es.length:=by simpa [hdl] using hL
    obtain ⟨x,hx⟩:∃ x,es[e]? = some x:=⟨_,gE hlt⟩;obtain ⟨hx0,hx1⟩:=hrc x (mG hx)
    have hxb:x.bare=false:=by
     cases hb:x.bare with
     | false=>rfl
     | true=>have:=hbare x (mG hx) hb;omega
    obtain ⟨k,hk,hkl⟩:=(hedge x (mG hx)).to1 hxb;have hek:edN D x=D.getD k 0:=by unfold edN;rw [hk,Int.toNat_natCast]
    have hone:=ih k hkl (by omega) (by omega)
    have hsn:dVals ((es.take e).map fun e=>firstV ND D f e.to.toNat) ++ [dVal (firstV ND D f k)]=dVals ((es.take (e + 1)).map fun e=>firstV ND D f e.to.toNat):=by
     rw [take_snoc hx,List.map_append,List.map_cons,List.map_nil,dVals_app,hk,Int.toNat_natCast]
    have hml:(dVals ((es.take e).map fun e=>firstV ND D f e.to.toNat)).length=e:=by rw [dVals_len,List.length_map,List.length_take];omega
    generalize firstV ND D f k=u at hone hsn;obtain ⟨uk,un,us,ul⟩:=u;obtain ⟨en,eb,ea,et,elb,ew,eck,ecn,ese,eca⟩:=x;simp only at hk;subst hk;refine drawG_s mo (by decide +kernel) ?_;refine ⟨_,⟨Int.natCast_nonneg _,dEds_get hx⟩,?_⟩;refine callD_p en27 (hone) ax rfl ?_;refine ⟨hml,⟨by rw [hml];simp [maxLen];omega,by rw [hml];simp;omega⟩,?_⟩;exact ⟨ft26St a b A B ND z D M S O ⟨7,at',lo,hi',most,names,es⟩ ((es.take (e + 1)).map fun e=>firstV ND D f e.to.toNat) (e + 1),(weak_b 4 rfl (by repeat' (first | exact rfl | exact we_rfl rfl | exact we_sl hsn rfl | exact we_int (nxt hlt (by omega)) | refine ⟨_,_,rfl,?_,?_⟩)) rfl rfl rfl (by repeat' (first | exact trivial | exact we_rfl rfl | exact we_sl hsn rfl | exact we_int (nxt hlt (by omega)) | refine ⟨⟨_,rfl,?_⟩,?_⟩))),es.length - (e + 1),by omega,e + 1,rfl,by omega,rfl⟩
   ·have hge:e=es.length:=by have:=hL;simp [hdl] at this;omega
    subst hge;exact ⟨.agg (dVal (.mk 7 0 emptyB ((es.take es.length).map fun e=>firstV ND D f e.to.toNat))),ax,by rw [List.take_length]⟩
  rw [if_neg c7];by_cases c8:kind=8
  ·subst c8;obtain ⟨c,x,hc,hx,hp⟩:=hun rfl;have htd:=htd hx fun hb=>by obtain ⟨h2,h3⟩:=hp hb;exact ⟨h2,by omega⟩
   rw [if_pos rfl,hc];rw [hc] at hch;simp only;generalize tagV (firstV ND D f) es c=u at htd;obtain ⟨uk,un,us,ul⟩:=u;refine ev_go (P:=Tryz.prog) tt tt_ok 5000 56 [.cell 4 59] Tryz.func27 rfl Tryz.ntmps27 rfl (nL rfl) (fun E9 w9 hn9 hm9=>?_);refine ⟨_,⟨by omega,dNds_get hn⟩,?_⟩;refine drawG_s mo (by decide +kernel) ?_;refine callD_p en96 (hch) ax rfl ?_;refine callD_p en95 (htd) ax rfl ?_;exact ⟨.agg (dVal (.mk uk un us ul)),ax,rfl⟩
  ·rw [if_neg c8];refine ev_go (P:=Tryz.prog) tt tt_ok 5000 56 [.cell 4 59] Tryz.func27 rfl Tryz.ntmps27 rfl (nL rfl) (fun E9 w9 hn9 hm9=>?_);refine ⟨_,⟨by omega,dNds_get hn⟩,?_⟩;refine br (fun h=>absurd h (by simpa using c2)) (fun _=>?_);refine br (fun h=>absurd h (by simpa using c7)) (fun _=>?_);refine br (fun h=>absurd h (by simpa using c8)) (fun _=>?_);exact ⟨.agg (dVal (valN kind 0)),ax,rfl⟩
end
section
variable (a b:Nat) (A B:List (List DV)) (ND:List Nd) (z:Int) (D M sz T:List Nat) (K:List Bool) {L:Nat}
abbrev sc26St (n:Nd) (vs:List Val) (e:Nat):St:=
 ⟨[(2,⟨[],.loc 0 0⟩),(4,⟨[],.loc 1 0⟩),(5,⟨[],.loc 2 0⟩),(6,⟨[],.loc 3 0⟩),(7,⟨[],.v (.int .i64 e)⟩)],[w26 a b A B ND z D M sz T,zVal,dNd n,[.v (.int .i64 7),.v (.int .i64 0),.v (.string .empty),.sl 4 (dVals vs) (some 0)]],[⟨e,59,4,none⟩]⟩
theorem second26_spec (hO:DepOK ND D) (hok:∀ n∈ND,NdOK L ND.length n) (hsz:∀ n∈ND,n.edges.length<=1099511627776) (hrn:∀ n∈ND,n.kind=2 -> -9223372036854775808<=n.lo/\n.hi<=9223372036854775807) (hlM:M.length=ND.length) (hKM:∀ j,j < ND.length->K.getD j false=decide (1 < M.getD j 0)) (hKs:∀ i n,ND[i]? = some n->K.getD i false=true->sevF n D K=true)
  (hT:∀ i,T.getD i 0≠0->∃ n,ND[i]? = some n/\K.getD i false=true/\T.getD i 0=othE T (othS sz D K n)):∀ (f i:Nat),T.getD i 0≠0->T.getD i 0<=f->T.getD i 0 < 4097->EvP Tryz.prog 28 [.agg (w26 a b A B ND z D M sz T),.v (.int .i64 i)] (.agg (dVal (secondV ND D K f i)))
 | 0,i,h0,h1,_=>by omega
 | f + 1,i,h0,h1,h2=>by
  obtain ⟨n,hn,hKi,hv⟩:=hT i h0;have hi:=(gS hn).1;have hnm:=mG hn;have hN:=hok n hnm;have hsv:=hKs i n hn hKi;have hSec:=secOK_of hN hsv;have hDi:0 < D.getD i 0:=by rw [hO.get i n hn];exact sevF_dep hN hsv
  have hone:=fun k hk hp=>first26_spec a b A B ND z D M sz T hO hok hsz ND.length k hk hp (hO.le k)
  have hrec:∀ s j,1<=s->T.getD i 0=othE T (s,some j)->EvP Tryz.prog 28 [.agg (w26 a b A B ND z D M sz T),.v (.int .i64 j)] (.agg (dVal (secondV ND D K f j))):=fun s j hs h=>by
   have hj0:T.getD j 0≠0:=fun hj=>h0 (by rw [h];simp only [othE];rw [if_pos hj])
   have hlt:T.getD j 0 < T.getD i 0:=by
    have h':=h;simp only [othE] at h';rw [if_neg hj0] at h';unfold cutM at h';omega
   exact second26_spec hO hok hsz hrn hlM hKM hKs hT f j hj0 (by omega) (by omega)
  have hel:=hsz n hnm;have htg:=fun b'=>tag26_spec a b A B ND z D M sz T b' hO.len hN hel;have hfl:=fun h=>field26_spec a b A B ND z D M sz T K hlM hKM hN h hel
  have htd:∀ {c:Nat} {x:Ed},n.edges[c]? = some x->(x.bare=false->0 < edN D x)->EvP Tryz.prog 95 [.agg (w26 a b A B ND z D M sz T),.agg (dNd n),.v (.int .i64 c)] (.agg (dVal (tagV (fstV ND D) n.edges c))):=fun {c x} hx hp=>tagged26_of a b A B ND z D M sz T (L:=L) hN hx hel fun hb k hk=>by
   have h2:=hp hb;unfold edN at h2;rw [hk,Int.toNat_natCast] at h2;exact hone k (dep_in hO h2) h2
  have hun:=hO.uni hn hDi;have hedge:=hN.edge;have hbare:=hN.bare;have honeE:=hN.one;have hk1:=hN.k1;have hk8:=hN.k8
  have honek:∀ {x:Ed},x∈n.edges->x.bare=false->0 < edN D x->∃ k:Nat,x.to=k/\k < ND.length/\EvP Tryz.prog 27 [.agg (w26 a b A B ND z D M sz T),.v (.int .i64 k)] (.agg (dVal (fstV ND D k))):=fun {x} hx hb h=>by
   obtain ⟨k,hk,hkl⟩:=(hedge x hx).to1 hb;exact ⟨k,hk,hkl,hone k hkl (by unfold edN at h;rw [hk,Int.toNat_natCast] at h;exact h)⟩
  have hrc:=hO.rcd hn hDi;rw [show secondV ND D K (f + 1) i=secB (fstV ND D) (secondV ND D K f) D K n by rw [secondV,hn]];obtain ⟨kind,at',lo,hi',most,names,es⟩:=n;simp only at hv hun htg hfl hel hedge hbare honeE honek htd hrc hk1 hk8;have h7:=hSec.c7;have h8:=hSec.c8;simp only at h7 h8;have hdl:=dEds_len es;rcases (show kind=1∨kind=2∨kind=3∨kind=4∨kind=5∨kind=6∨kind=7∨kind=8 by omega) with rfl | rfl | rfl | rfl | rfl | rfl | rfl | rfl
  ·refine ev_go (P:=Tryz.prog) tt tt_ok 5000 113 [.cell 4 59] Tryz.func28 rfl Tryz.ntmps28 rfl (nL rfl) (fun E9 w9 hn9 hm9=>?_);refine ⟨_,⟨by omega,dNds_get hn⟩,?_⟩;exact ⟨.agg (dVal (valN 1 1)),ax,rfl⟩
  ·have hlo:lo < hi':=by simpa [sevF] using hsv
   have hr:=hrn _ hnm rfl;simp only at hr;have hw:IntKind.i64.wrap (lo + 1)=lo + 1:=wrap64 (by omega) (by omega);refine ev_go (P:=Tryz.prog) tt tt_ok 5000 113 [.cell 4 59] Tryz.func28 rfl Tryz.ntmps28 rfl (nL rfl) (fun E9 w9 hn9 hm9=>?_);refine ⟨_,⟨by omega,dNds_get hn⟩,?_⟩;exact ⟨.agg (dVal (valN 2 (lo + 1))),(aI hw),rfl⟩
  ·refine ev_go (P:=Tryz.prog) tt tt_ok 5000 113 [.cell 4 59] Tryz.func28 rfl Tryz.ntmps28 rfl (nL rfl) (fun E9 w9 hn9 hm9=>?_);refine ⟨_,⟨by omega,dNds_get hn⟩,?_⟩;exact ⟨.agg (dVal (.mk 3 0 ⟨#[97]⟩ [])),ax,rfl⟩
  ·refine ev_go (P:=Tryz.prog) tt tt_ok 5000 113 [.cell 4 59] Tryz.func28 rfl Tryz.ntmps28 rfl (nL rfl) (fun E9 w9 hn9 hm9=>?_);refine ⟨_,⟨by omega,dNds_get hn⟩,?_⟩;exact ⟨.agg (dVal (valN 4 1)),ax,rfl⟩
  ·obtain ⟨x,hx,hxb,_⟩:=honeE (.inl rfl);subst hx
   have hth:thB D x=true:=by
    cases h:thB D x with
    | true=>rfl
    | false=>simp [sevF,manyN,h] at hsv
   obtain ⟨k,hk,hkl,hon⟩:=honek List.mem_cons_self hxb (thB_pos hth hxb)
   rw [show secB (fstV ND D) (secondV ND D K f) D K ⟨5,at',lo,hi',most,names,[x]⟩ = .mk 5 0 emptyB [fstV ND D k] by
    show Val.mk 5 0 emptyB [fstV ND D x.to.toNat]=_
    rw [hk,Int.toNat_natCast]]
   generalize fstV ND D k=u at hon;obtain ⟨uk,un,us,ul⟩:=u;obtain ⟨en,eb,ea,et,elb,ew,eck,ecn,ese,eca⟩:=x;simp only at hk;subst hk;refine ev_go (P:=Tryz.prog) tt tt_ok 5000 113 [.cell 4 59] Tryz.func28 rfl Tryz.ntmps28 rfl (nL rfl) (fun E9 w9 hn9 hm9=>?_);refine ⟨_,⟨by omega,dNds_get hn⟩,?_⟩;refine drawG_s mo (by decide +kernel) ?_;refine ⟨_,⟨by omega,rfl⟩,?_⟩;refine callD_p en27 (hon) ax rfl ?_;exact ⟨.agg (dVal (.mk 5 0 emptyB [.mk uk un us ul])),ax,rfl⟩
  ·obtain ⟨x,hx,hxb,_⟩:=honeE (.inr rfl);subst hx
   have hth:thB D x=true:=by
    cases h:thB D x with
    | true=>rfl
    | false=>simp [sevF,manyN,h] at hsv
   obtain ⟨k,hk,hkl,hon⟩:=honek List.mem_cons_self hxb (thB_pos hth hxb)
   rw [show secB (fstV ND D) (secondV ND D K f) D K ⟨6,at',lo,hi',most,names,[x]⟩ = .mk 6 0 emptyB [fstV ND D k] by
    show Val.mk 6 0 emptyB [fstV ND D x.to.toNat]=_
    rw [hk,Int.toNat_natCast]]
   generalize fstV ND D k=u at hon;obtain ⟨uk,un,us,ul⟩:=u;obtain ⟨en,eb,ea,et,elb,ew,eck,ecn,ese,eca⟩:=x;simp only at hk;subst hk;refine ev_go (P:=Tryz.prog) tt tt_ok 5000 113 [.cell 4 59] Tryz.func28 rfl Tryz.ntmps28 rfl (nL rfl) (fun E9 w9 hn9 hm9=>?_);refine ⟨_,⟨by omega,dNds_get hn⟩,?_⟩;refine drawG_s mo (by decide +kernel) ?_;refine ⟨_,⟨by omega,rfl⟩,?_⟩;refine callD_p en27 (hon) ax rfl ?_;exact ⟨.agg (dVal (.mk 6 0 emptyB [.mk uk un us ul])),ax,rfl⟩
  ·have hfl:=hfl rfl;obtain ⟨c,x,hc,hx,hxb⟩:=h7 rfl;rw [hc] at hfl;rw [show othS sz D K ⟨7,at',lo,hi',most,names,es⟩=(sumX sz c es 0 1,some x.to.toNat) by simp [othS,hc,hx]] at hv;have htwo:=hrec _ _ (sumX_ge (by omega)) hv;obtain ⟨k,hk,hkl⟩:=(hedge x (mG hx)).to1 hxb;have hcl:=(gS hx).1
   rw [show secB (fstV ND D) (secondV ND D K f) D K ⟨7,at',lo,hi',most,names,es⟩ = .mk 7 0 emptyB ((es.map fun e=>fstV ND D e.to.toNat).set c (secondV ND D K f k)) by
    show (match chgF K es with | some c=>(match es[c]? with | some e=>Val.mk 7 0 emptyB ((es.map fun e:Ed=>fstV ND D e.to.toNat).set c (secondV ND D K f e.to.toNat)) | none=>valN 7 0) | none=>valN 7 0)=_;rw [hc];simp only [hx]
    rw [hk,Int.toNat_natCast]]
   rw [hk,Int.toNat_natCast] at htwo
   have hgs:∀ {e:Nat} {y:Ed},es[e]? = some y->((es.map fun e=>fstV ND D e.to.toNat).set c (secondV ND D K f k))[e]? = some (if e=c then secondV ND D K f k else fstV ND D y.to.toNat):=fun {e y} hy=>by
    by_cases h:e=c
    ·subst h;rw [if_pos rfl,List.getElem?_set_self (by rw [List.length_map];exact hcl)]
    ·rw [if_neg h,List.getElem?_set_ne (fun h2=>h h2.symm),List.getElem?_map,hy];all_goals rfl
   have hkl2:((es.map fun e=>fstV ND D e.to.toNat).set c (secondV ND D K f k)).length=es.length:=by rw [List.length_set,List.length_map]
   generalize ((es.map fun e=>fstV ND D e.to.toNat).set c (secondV ND D K f k))=ks at hgs hkl2;generalize secondV ND D K f k=u at htwo hgs;refine ev_go (P:=Tryz.prog) tt tt_ok 5000 113 [.cell 4 59] Tryz.func28 rfl Tryz.ntmps28 rfl (nL rfl) (fun E9 w9 hn9 hm9=>?_);refine ⟨_,⟨by omega,dNds_get hn⟩,?_⟩;refine loop_i (fun j st=>∃ e:Nat,st=sc26St a b A B ND z D M sz T ⟨7,at',lo,hi',most,names,es⟩ (ks.take e) e/\e<=es.length/\j=es.length - e) es.length (sc26St a b A B ND z D M sz T ⟨7,at',lo,hi',most,names,es⟩ [] 0) (weak_bt 4 ⟨0,59,4,none⟩ rfl rfl rfl (by repeat' (first | exact rfl | exact we_rfl rfl | exact we_tok (Nat.le_refl _) rfl | exact we_tok (Nat.le_refl _) rfl | refine ⟨_,_,rfl,?_,?_⟩)) rfl rfl wTB) ⟨0,rfl,by omega,by omega⟩ ?_;rintro j st ⟨e,rfl,he,rfl⟩;refine br (fun hL=>?_) (fun hL=>?_)
   ·have hlt:e < es.length:=by simpa [hdl] using hL
    obtain ⟨y,hy⟩:∃ x,es[e]? = some x:=⟨_,gE hlt⟩
    have hyb:y.bare=false:=by
     cases hb:y.bare with
     | false=>rfl
     | true=>have:=hbare y (mG hy) hb;omega
    have hgs:=hgs hy;have hml:(dVals (ks.take e)).length=e:=by rw [dVals_len,List.length_take];omega
    obtain ⟨q,hq,hql,hon⟩:=honek (mG hy) hyb (hrc rfl y (mG hy)).1;rw [hq,Int.toNat_natCast] at hgs;refine call_p en97 (hfl) ax rfl ?_;refine br (fun g=>?_) (fun g=>?_)
    ·have g:e=c:=Int.ofNat.inj (of_decide_eq_true g:((e:Nat):Int)=((c:Nat):Int));subst g;rw [if_pos rfl] at hgs;rw [hx] at hy;cases hy;rw [hk] at hq;obtain rfl:k=q:=by omega
     have hsn:=dVals_snoc hgs;obtain ⟨uk,un,us,ul⟩:=u;obtain ⟨en,eb,ea,et,elb,ew,eck,ecn,ese,eca⟩:=x;simp only at hk;subst hk;refine drawG_s mo (by decide +kernel) ?_;refine ⟨_,⟨Int.natCast_nonneg _,dEds_get hx⟩,?_⟩;refine callD_p en28 (htwo) ax rfl ?_;refine ⟨hml,⟨by rw [hml];simp [maxLen];omega,by rw [hml];simp;omega⟩,?_⟩;exact ⟨sc26St a b A B ND z D M sz T ⟨7,at',lo,hi',most,names,es⟩ (ks.take (e + 1)) (e + 1),(weak_b 4 rfl (by repeat' (first | exact rfl | exact we_rfl rfl | exact we_sl hsn rfl | exact we_int (nxt hlt (by omega)) | refine ⟨_,_,rfl,?_,?_⟩)) rfl rfl rfl (by repeat' (first | exact trivial | exact we_rfl rfl | exact we_sl hsn rfl | exact we_int (nxt hlt (by omega)) | refine ⟨⟨_,rfl,?_⟩,?_⟩))),es.length - (e + 1),by omega,e + 1,rfl,by omega,rfl⟩
    ·have g:¬ e=c:=fun h=>by subst h;simp [oz] at g
     rw [if_neg g] at hgs;have hsn:=dVals_snoc hgs;generalize fstV ND D q=u2 at hon hsn;obtain ⟨vk,vn,vs,vl⟩:=u2;obtain ⟨en,eb,ea,et,elb,ew,eck,ecn,ese,eca⟩:=y;simp only at hq;subst hq;refine drawG_s mo (by decide +kernel) ?_;refine ⟨_,⟨Int.natCast_nonneg _,dEds_get hy⟩,?_⟩;refine callD_p en27 (hon) ax rfl ?_;refine ⟨hml,⟨by rw [hml];simp [maxLen];omega,by rw [hml];simp;omega⟩,?_⟩;exact ⟨sc26St a b A B ND z D M sz T ⟨7,at',lo,hi',most,names,es⟩ (ks.take (e + 1)) (e + 1),(weak_b 4 rfl (by repeat' (first | exact rfl | exact we_rfl rfl | exact we_sl hsn rfl | exact we_int (nxt hlt (by omega)) | refine ⟨_,_,rfl,?_,?_⟩)) rfl rfl rfl (by repeat' (first | exact trivial | exact we_rfl rfl | exact we_sl hsn rfl | exact we_int (nxt hlt (by omega)) | refine ⟨⟨_,rfl,?_⟩,?_⟩))),es.length - (e + 1),by omega,e + 1,rfl,by omega,rfl⟩
   ·have hge:e=es.length:=by have:=hL;simp [hdl] at this;omega
    subst hge;exact ⟨.agg (dVal (.mk 7 0 emptyB (ks.take es.length))),ax,by rw [List.take_of_length_le (by omega)]⟩
  ·obtain ⟨c,x,hc,hx,hp⟩:=hun rfl;have htg1:=htg (-1);rw [tagR_choose,hc] at htg1;have htg2:=htg (c:Int);rw [tagR_turn hc] at htg2
   cases ht:turnF D es with
   | some q=>
    rw [ht] at htg2;obtain ⟨y,hy,hth⟩:=turn_some ht;have htd:=htd hy fun hb=>thB_pos hth hb
    rw [show secB (fstV ND D) (secondV ND D K f) D K ⟨8,at',lo,hi',most,names,es⟩=tagV (fstV ND D) es q by
     show (match turnF D es with | some c=>tagV (fstV ND D) es c | none=>(match chooseF D es with | some c=>(match es[c]? with | some e=>Val.mk 8 c emptyB [secondV ND D K f e.to.toNat] | none=>valN 8 c) | none=>valN 8 0))=_
     rw [ht]]
    generalize tagV (fstV ND D) es q=u at htd;obtain ⟨uk,un,us,ul⟩:=u;refine ev_go (P:=Tryz.prog) tt tt_ok 5000 113 [.cell 4 59] Tryz.func28 rfl Tryz.ntmps28 rfl (nL rfl) (fun E9 w9 hn9 hm9=>?_);refine ⟨_,⟨by omega,dNds_get hn⟩,?_⟩;refine call_p en96 (htg1) ax rfl ?_;refine call_p en96 (htg2) ax rfl ?_;refine call_p en95 (htd) ax rfl ?_;exact ⟨.agg (dVal (.mk uk un us ul)),ax,rfl⟩
   | none=>
    rw [ht] at htg2;obtain ⟨c',x',hc',hx',hxb⟩:=h8 rfl ht;rw [hc] at hc';cases hc';rw [hx] at hx';cases hx';rw [show othS sz D K ⟨8,at',lo,hi',most,names,es⟩=(1,some x.to.toNat) by simp [othS,ht,hc,hx]] at hv;have htwo:=hrec _ _ (Nat.le_refl 1) hv;obtain ⟨k,hk,hkl⟩:=(hedge x (mG hx)).to1 hxb
    rw [show secB (fstV ND D) (secondV ND D K f) D K ⟨8,at',lo,hi',most,names,es⟩ = .mk 8 c emptyB [secondV ND D K f k] by
     show (match turnF D es with | some c=>tagV (fstV ND D) es c | none=>(match chooseF D es with | some c=>(match es[c]? with | some e=>Val.mk 8 c emptyB [secondV ND D K f e.to.toNat] | none=>valN 8 c) | none=>valN 8 0))=_;rw [ht];simp only [hc,hx]
     rw [hk,Int.toNat_natCast]]
    rw [hk,Int.toNat_natCast] at htwo;generalize secondV ND D K f k=u at htwo;obtain ⟨uk,un,us,ul⟩:=u;obtain ⟨en,eb,ea,et,elb,ew,eck,ecn,ese,eca⟩:=x;simp only at hk;subst hk;refine ev_go (P:=Tryz.prog) tt tt_ok 5000 113 [.cell 4 59] Tryz.func28 rfl Tryz.ntmps28 rfl (nL rfl) (fun E9 w9 hn9 hm9=>?_);refine ⟨_,⟨by omega,dNds_get hn⟩,?_⟩;refine call_p en96 (htg1) ax rfl ?_;refine call_p en96 (htg2) ax rfl ?_;refine drawG_s mo (by decide +kernel) ?_;refine ⟨_,⟨Int.natCast_nonneg _,dEds_get hx⟩,?_⟩;refine callD_p en28 (htwo) ax rfl ?_;exact ⟨.agg (dVal (.mk 8 c emptyB [.mk uk un us ul])),ax,rfl⟩
end
def sumP (sz:List Nat):List Ed->Nat
 | []=>0
 | e :: r=>prtF sz e + sumP sz r
theorem sumX_all {sz:List Nat}:∀ {es:List Ed} {i n:Nat},n<=4097->sumX sz (-1) es i n < 4097->sumX sz (-1) es i n=n + sumP sz es
 | [],i,n,_,_=>rfl
 | e :: r,i,n,hn,h=>by
  rw [sumX,if_neg (by omega)] at h ⊢;have h1:=sumX_ge (sz:=sz) (c:=-1) (es:=r) (i:=i + 1) (cutM_le (n + prtF sz e));have h2:cutM (n + prtF sz e)=n + prtF sz e∨cutM (n + prtF sz e)=4097:=by unfold cutM;omega
  rw [sumX_all (cutM_le _) h,sumP];omega
theorem sumX_part {sz:List Nat} {c:Int}:∀ {es:List Ed} {i n j:Nat} {x:Ed},n<=4097->sumX sz c es i n < 4097->es[j]? = some x->((i + j:Nat):Int)≠c->prtF sz x < 4097
 | e :: r,i,n,0,x,hn,h,hx,hc=>by
  simp only [List.getElem?_cons_zero,oI] at hx;subst hx;rw [sumX,if_neg (by simpa using hc)] at h;have h1:=sumX_ge (sz:=sz) (c:=c) (es:=r) (i:=i + 1) (cutM_le (n + prtF sz e));have h2:cutM (n + prtF sz e)=n + prtF sz e∨cutM (n + prtF sz e)=4097:=by unfold cutM;omega
  omega
 | e :: r,i,n,j + 1,x,hn,h,hx,hc=>by
  rw [sumX] at h;refine sumX_part (j:=j) ?_ h (by simpa using hx) (by rw [show i + 1 + j=i + (j + 1) by omega];exact hc);split
  ·exact hn
  ·exact cutM_le _
theorem wtVs_map {sz:List Nat} {F:Ed->Val}:∀ {es:List Ed},(∀ e∈es,(F e).wt<=64 * prtF sz e)->wtVs (es.map F)<=64 * sumP sz es
 | [],_=>by simp [wtVs]
 | e :: r,h=>by
  have h1:=h e List.mem_cons_self;have h2:=wtVs_map (es:=r) fun x hx=>h x (List.mem_cons_of_mem _ hx);rw [List.map_cons,wtVs,sumP];omega
theorem valN_wt (k n:Int):(valN k n).wt=64:=rfl
theorem fstV_wt {ND:List Nd} {D:List Nat} (hO:DepOK ND D) {L:Nat} (hok:∀ n∈ND,NdOK L ND.length n):∀ (f i:Nat),D.getD i 0<=f->0 < D.getD i 0->(szT ND D).getD i 0 < 4097->(fstV ND D i).wt<=64 * (szT ND D).getD i 0
 | 0,i,h,h0,_=>by omega
 | f + 1,i,h,h0,hs=>by
  have hi:=dep_in hO h0;have hn:ND[i]? = some ND[i]:=gE hi;have hN:=hok _ (mG hn);generalize ND[i]=n at hn hN;have hsz:=szT_get hO hn h0;rw [fstV_eq hO hn h0];rw [hsz] at hs ⊢;have hone:=sizeF_pos (szT ND D) D n
  have hkid:∀ {e:Ed},0 < edN D e->edN D e < D.getD i 0->prtF (szT ND D) e < 4097->e.bare=false->(fstV ND D e.to.toNat).wt<=64 * prtF (szT ND D) e:=fun {e} h2 h3 h4 hb=>by
   have hp:prtF (szT ND D) e=(szT ND D).getD e.to.toNat 0:=by unfold prtF edN;rw [hb];all_goals rfl
   rw [hp] at h4 ⊢;unfold edN at h2 h3;exact fstV_wt hO hok f _ (by omega) h2 h4
  split
  ·rw [valN_wt];omega
  ·split
   ·rename_i h7;unfold sizeF at hs ⊢;rw [if_pos h7] at hs ⊢;have hall:=sumX_all (by omega) hs
    have hw:wtVs (n.edges.map fun e=>fstV ND D e.to.toNat)<=64 * sumP (szT ND D) n.edges:=wtVs_map fun e he=>by
     obtain ⟨h2,h3⟩:=hO.rcd hn h0 h7 e he;obtain ⟨j,hj,rfl⟩:=List.getElem_of_mem he;refine hkid h2 h3 (sumX_part (n:=1) (by omega) hs (gE hj) (by omega)) ?_
     cases hb:n.edges[j].bare with
     | false=>rfl
     | true=>have:=hN.bare _ he hb;omega
    rw [Val.wt,hall];show 64 + 0 + _<=_;omega
   ·split
    ·rename_i h7 h8;obtain ⟨c,e,hc,he,hp⟩:=hO.uni hn h0 h8;unfold sizeF at hs ⊢;rw [if_neg h7,if_pos h8,hc] at hs ⊢;simp only [he] at hs ⊢;simp only [tagV,he]
     cases hb:e.bare with
     | true=>
      rw [Val.wt];show 64 + 0 + 0<=_;unfold cutM;omega
     | false=>
      obtain ⟨h2,h3⟩:=hp hb;have hlt:prtF (szT ND D) e < 4097:=by unfold cutM at hs;omega
      have:=hkid h2 h3 hlt hb;rw [Val.wt];show 64 + 0 + ((fstV ND D e.to.toNat).wt + 0)<=_;unfold cutM at hs ⊢;omega
    ·rw [valN_wt];omega
theorem wtVs_bound {m:Nat}:∀ {l:List Val},(∀ v∈l,v.wt<=m)->wtVs l<=l.length * m
 | [],_=>by simp [wtVs]
 | v :: r,h=>by
  have h1:=h v List.mem_cons_self;have h2:=wtVs_bound (l:=r) fun x hx=>h x (List.mem_cons_of_mem _ hx);rw [wtVs,List.length_cons,Nat.add_mul,Nat.one_mul];omega
theorem wtVs_put {u:Val}:∀ {l:List Val} {c:Nat} {m:Nat},(∀ (j:Nat) v,j≠c->l[j]? = some v->v.wt<=m)->wtVs (l.set c u)<=l.length * m + u.wt
 | [],_,_,_=>by simp [wtVs]
 | v :: r,0,m,h=>by
  have h2:=wtVs_bound (l:=r) (m:=m) fun x hx=>by
   obtain ⟨j,hj,rfl⟩:=List.getElem_of_mem hx;exact h (j + 1) _ (by omega) (by simp [hj])
  rw [List.set_cons_zero,wtVs,List.length_cons,Nat.add_mul,Nat.one_mul];omega
 | v :: r,c + 1,m,h=>by
  have h1:=h 0 v (by omega) rfl;have h2:=wtVs_put (u:=u) (l:=r) (c:=c) (m:=m) fun j x hj hx=>h (j + 1) x (by omega) (by simpa using hx);rw [List.set_cons_succ,wtVs,List.length_cons,Nat.add_mul,Nat.one_mul];omega
theorem secondV_wt {ND:List Nd} {L:Nat} (hok:∀ n∈ND,NdOK L ND.length n):∀ (f i:Nat),(sszT ND).getD i 0≠0->(sszT ND).getD i 0<=f->(sszT ND).getD i 0 < 4097->(secondV ND (depT ND) (sevT ND) f i).wt<=(sszT ND).getD i 0 * 33554432
 | 0,i,h0,h1,_=>by omega
 | f + 1,i,h0,h1,h2=>by
  obtain ⟨n,hn,hKi,hv⟩:=otT_get h0;have hO:=depOK ND;have hN:=hok n (mG hn);have hsv:=sevT_fix hn hKi;have hSec:=secOK_of hN hsv
  have hrec:∀ s j,1<=s->(sszT ND).getD i 0=othE (sszT ND) (s,some j)->(secondV ND (depT ND) (sevT ND) f j).wt + 33554432<=(sszT ND).getD i 0 * 33554432:=fun s j hs h=>by
   have hj0:(sszT ND).getD j 0≠0:=fun hj=>h0 (by rw [h];simp only [othE];rw [if_pos hj])
   have hlt:(sszT ND).getD j 0 < (sszT ND).getD i 0:=by
    have h':=h;simp only [othE] at h';rw [if_neg hj0] at h';unfold cutM at h';omega
   have:=secondV_wt hok f j hj0 (by omega) (by omega);omega
  have hfw:∀ {e:Ed},thB (depT ND) e=true->prtF (fszT ND) e < 4097->e.bare=false->(fstV ND (depT ND) e.to.toNat).wt<=262208:=fun {e} ht hp hb=>by
   have hp':prtF (fszT ND) e=(fszT ND).getD e.to.toNat 0:=by unfold prtF edN;rw [hb];all_goals rfl
   rw [hp'] at hp;have h0:=thB_pos ht hb;unfold edN at h0;have:(fstV ND (depT ND) e.to.toNat).wt<=64 * (fszT ND).getD e.to.toNat 0:=fstV_wt hO hok _ _ (Nat.le_refl _) h0 hp;omega
  have hcut:∀ {e:Ed},cutM (1 + prtF (fszT ND) e) < 4097->prtF (fszT ND) e < 4097:=fun {e} h=>by unfold cutM at h;omega
  have htag:∀ {c:Nat} {e:Ed},n.edges[c]? = some e->thB (depT ND) e=true->prtF (fszT ND) e < 4097->(tagV (fstV ND (depT ND)) n.edges c).wt<=33554432:=fun {c e} he ht hp=>by
   simp only [tagV,he]
   cases hb:e.bare with
   | true=>rw [Val.wt];show 64 + 0 + 0<=_;omega
   | false=>
    have:=hfw ht hp hb;rw [Val.wt];show 64 + 0 + ((fstV ND (depT ND) e.to.toNat).wt + 0)<=_;omega
  have h1':1 * 33554432<=(sszT ND).getD i 0 * 33554432:=Nat.mul_le_mul_right _ (by omega);have hE:∀ s,othE (sszT ND) (s,none)=s:=fun _=>rfl;rw [show secondV ND (depT ND) (sevT ND) (f + 1) i=secB (fstV ND (depT ND)) (secondV ND (depT ND) (sevT ND) f) (depT ND) (sevT ND) n by rw [secondV,hn]];have hv2:=hv;unfold secB;unfold othS at hv;split
  ·rw [valN_wt];omega
  ·split
   ·show 64 + 1 + 0<=_;omega
   ·split
    ·rename_i h56;obtain ⟨x,hx,hxb,_⟩:=hN.one h56;rw [hx] at hv ⊢;rw [if_pos h56] at hv;simp only [List.getElem?_cons_zero] at hv ⊢
     have hth:thB (depT ND) x=true:=by
      cases h:thB (depT ND) x with
      | true=>rfl
      | false=>rcases h56 with h5 | h5<;>simp [sevF,manyN,h,h5,hx] at hsv
     have hv:(sszT ND).getD i 0=cutM (1 + prtF (fszT ND) x):=hv;have:=hfw hth (hcut (by omega)) hxb;rw [Val.wt];show 64 + 0 + ((fstV ND (depT ND) x.to.toNat).wt + 0)<=_;omega
    ·split
     ·rename_i h56 h7;rw [if_neg h56,if_pos h7] at hv;obtain ⟨c,x,hc,hx,hxb⟩:=hSec.c7 h7;rw [hc] at hv ⊢;simp only [hx] at hv ⊢
      have hS:sumX (fszT ND) c n.edges 0 1 < 4097:=by
       have hv':(sszT ND).getD i 0=othE (sszT ND) (sumX (fszT ND) c n.edges 0 1,some x.to.toNat):=hv;simp only [othE] at hv';split at hv'
       ·exact (h0 hv').elim
       ·have:=sumX_le (sz:=fszT ND) (c:=c) (es:=n.edges) (i:=0) (n:=1) (by omega);unfold cutM at hv';omega
      have hr:=hrec _ _ (sumX_ge (by omega)) hv;have hDi:0 < (depT ND).getD i 0:=by rw [hO.get i n hn];exact sevF_dep hN hsv
      have hl64:=(hN.many (.inl h7)).1
      have hw:=wtVs_put (u:=secondV ND (depT ND) (sevT ND) f x.to.toNat) (l:=n.edges.map fun e=>fstV ND (depT ND) e.to.toNat) (c:=c) (m:=262208) fun j v hj hv=>by
       rw [List.getElem?_map] at hv
       cases he:n.edges[j]? with
       | none=>rw [he] at hv;cases hv
       | some e=>
        rw [he] at hv;cases hv;have hem:=mG he
        have hb:e.bare=false:=by
         cases hb:e.bare with
         | false=>rfl
         | true=>have:=hN.bare _ hem hb;omega
        refine hfw ?_ (sumX_part (n:=1) (by omega) hS he (by omega)) hb;have:=(hO.rcd hn hDi h7 e hem).1;unfold thB;rw [hb,Bool.false_or];exact decide_eq_true this
      rw [List.length_map] at hw;have hm:n.edges.length * 262208<=64 * 262208:=Nat.mul_le_mul_right _ hl64;rw [Val.wt];show 64 + 0 + _<=_;omega
     ·split
      ·rename_i h56 h7 h8;rw [if_neg h56,if_neg h7,if_pos h8] at hv
       cases ht:turnF (depT ND) n.edges with
       | some c=>
        rw [ht] at hv;obtain ⟨x,hx,hth⟩:=turn_some ht;simp only [hx] at hv;have hv:(sszT ND).getD i 0=cutM (1 + prtF (fszT ND) x):=hv;have:=htag hx hth (hcut (by omega));simp only;omega
       | none=>
        rw [ht] at hv;obtain ⟨c,x,hc,hx,hxb⟩:=hSec.c8 h8 ht;rw [hc] at hv;simp only [hx] at hv;have hr:=hrec _ _ (Nat.le_refl 1) hv;simp only [hc,hx];rw [Val.wt];show 64 + 0 + ((secondV ND (depT ND) (sevT ND) f x.to.toNat).wt + 0)<=_;omega
      ·rw [valN_wt];omega
end Go.Proofs.YtadbccicdbopcaaGreat
set_option maxRecDepth 100000
namespace Go.Proofs.YtadbccicdbopcaaGreat
open Go Go.RowKit Dv Tryz
end Go.Proofs.YtadbccicdbopcaaGreat
set_option maxRecDepth 100000
namespace Go.Proofs.YtadbccicdbopcaaGreat
open Go Go.RowKit Dv Tryz
end Go.Proofs.YtadbccicdbopcaaGreat
set_option maxRecDepth 100000
namespace Go.Proofs.YtadbccicdbopcaaGreat
open Go Go.RowKit Dv Tryz
end Go.Proofs.YtadbccicdbopcaaGreat
set_option maxRecDepth 100000
namespace Go.Proofs.YtadbccicdbopcaaGreat
open Go Go.RowKit Dv Tryz
section
variable (a b:Nat) (A B:List (List DV)) (rt:Int) {ND:List Nd} {L:Nat} (hok:∀ n∈ND,NdOK L ND.length n)
include hok
end
abbrev s24St (a b:Val) (e:Nat):St:=⟨[(2,⟨[],.loc 0 0⟩),(3,⟨[],.loc 1 0⟩),(5,⟨[],.v (.int .i64 e)⟩)],[dVal a,dVal b],[]⟩
theorem same24_spec:∀ (k:Nat) (a:Val),a.wt<=k->a.wt<=1099511627776->∀ b:Val,EvP Tryz.prog 98 [.agg (dVal a),.agg (dVal b)] (.v (.bool (sameV a b)))
 | 0,v,h,_=>by have:=v.wt_pos;omega
 | k + 1,.mk q n s ks,h,hb=>fun b=>by
  have ih:=same24_spec k;rw [Val.wt] at h hb;obtain ⟨bk,bn,bs,bl⟩:=b;have hal:=wtVs_len ks;have h1:=dVals_len ks;have h2:=dVals_len bl;have hS:sameV (.mk q n s ks) (.mk bk bn bs bl)=(decide (q=bk) && decide (n=bn) && decide (s=bs) && sameVs ks bl):=by rw [sameV]
  refine ev_go (P:=Tryz.prog) tt tt_ok 5000 53 [.tmp 4] Tryz.func98 rfl Tryz.ntmps98 rfl (nL rfl) (fun E9 w9 hn9 hm9=>?_);refine br (fun c=>?_) (fun c=>?_)
  ·have c:¬ (q=bk/\n=bn/\s=bs/\ks.length=bl.length):=by
    have:=c;simp [pickB_or,h1,h2] at this;intro hh;obtain ⟨a1,a2,a3,a4⟩:=hh;simp [a1,a2,a3,a4] at this
   refine (congrArg (fun b=>DV.v (.bool b)) ?_:_=_);rw [hS];by_cases hl:ks.length=bl.length
   ·symm;rw [Bool.and_eq_false_iff];left;simp only [Bool.and_eq_false_iff,decide_eq_false_iff_not];by_cases a1:q=bk
    ·by_cases a2:n=bn
     ·right;exact fun a3=>c ⟨a1,a2,a3,hl⟩
     ·left;right;exact a2
    ·left;left;exact a1
   ·rw [sameVs_len hl,Bool.and_false]
  ·have c:q=bk/\n=bn/\s=bs/\ks.length=bl.length:=by
    have:=c;simp [pickB_or,h1,h2] at this;obtain ⟨⟨⟨a1,a2⟩,a3⟩,a4⟩:=this;exact ⟨a1,a2,a3,by omega⟩
   obtain ⟨rfl,rfl,rfl,hl⟩:=c;simp only [decide_true,Bool.true_and] at hS;rw [hS]
   refine loop_i (fun j st=>∃ e:Nat,st=s24St (.mk q n s ks) (.mk q n s bl) e/\e<=ks.length/\sameVs ks bl=sameVs (ks.drop e) (bl.drop e)/\j=ks.length - e) ks.length
    (s24St (.mk q n s ks) (.mk q n s bl) 0) (weak_mk ⟨_,rfl⟩ wA rfl rfl rfl wB) ⟨0,rfl,by omega,rfl,by omega⟩ ?_
   rintro _ st ⟨e,rfl,he,heq,rfl⟩;refine br (fun h=>?_) (fun h=>?_)
   ·have hlt:e < ks.length:=by simpa [h1] using h
    obtain ⟨x,hx⟩:∃ x,ks[e]? = some x:=⟨_,gE hlt⟩;obtain ⟨y,hy⟩:∃ y,bl[e]? = some y:=⟨_,gE (hl ▸ hlt)⟩;rw [drop_cons hx,drop_cons hy,sameVs] at heq;have hxw:=wtVs_mem (mG hx);have hev:=ih x (by omega) (by omega) y;obtain ⟨xk,xn,xs,xl⟩:=x;obtain ⟨yk,yn,ys,yl⟩:=y;refine drawG_i (fun _=>false) mo (by decide +kernel) ?_;refine ⟨_,⟨by omega,dVals_get hx⟩,?_⟩;refine ⟨_,⟨by omega,dVals_get hy⟩,?_⟩;refine callD_p en98 (hev) ax rfl ?_;refine br (fun h=>?_) (fun h=>?_)
    ·have hne:sameV (.mk xk xn xs xl) (.mk yk yn ys yl)=false:=by simpa using h
     refine (congrArg (fun b=>DV.v (.bool b)) ?_:_=_);rw [heq,hne,Bool.false_and]
    ·have hne:sameV (.mk xk xn xs xl) (.mk yk yn ys yl)=true:=by simpa using h
     rw [hne,Bool.true_and] at heq;exact ⟨s24St (.mk q n s ks) (.mk q n s bl) (e + 1),(weak_mk ⟨_,rfl⟩ wA rfl rfl rfl (wNB hlt)),ks.length - (e + 1),by omega,e + 1,rfl,by omega,heq,rfl⟩
   ·have hge:ks.length<=e:=by simpa [h1] using h
    rw [List.drop_of_length_le (by omega),List.drop_of_length_le (by omega)] at heq;refine (congrArg (fun b=>DV.v (.bool b)) ?_:_=_);rw [heq];simp [sameVs]
theorem same25_spec (a:Val) (ha:a.wt<=1099511627776) (b:Val):EvP Tryz.prog 29 [.agg (dVal a),.agg (dVal b)] (.v (.bool (sameV a b))):=by
 have h:=same24_spec _ a (Nat.le_refl _) ha b;obtain ⟨q,n,s,ks⟩:=a;obtain ⟨bk,bn,bs,bl⟩:=b;refine ev_go (P:=Tryz.prog) tt tt_ok 5000 8 [.tmp 4] Tryz.func29 rfl Tryz.ntmps29 rfl (nL rfl) (fun E9 w9 hn9 hm9=>?_);refine call_p en98 (h) ax rfl ?_;exact (rfl:_=_)
section
variable (a b:Nat) (A B:List (List DV)) (rt:Int) {ND:List Nd} {L:Nat} (hok:∀ n∈ND,NdOK L ND.length n)
include hok
end
mutual
theorem flatT_rng:∀ (t:Ty),rngT t->∀ u∈flatT t,rngT u
 | .mk h ps,hr,u,hu=>by
  rw [flatT] at hu;split at hu
  ·cases hu
  ·rcases List.mem_cons.1 hu with rfl | hu
   ·exact hr
   ·rw [rngT] at hr;exact flatP_rng ps hr.2.2.2 u hu
theorem flatP_rng:∀ (ps:Pts),rngP ps->∀ u∈flatP ps,rngT u
 | .nil,_,u,hu=>by cases hu
 | .cons p v r,hr,u,hu=>by
  rw [flatP] at hu;rw [rngP] at hr;rcases List.mem_append.1 hu with hu | hu
  ·split at hu
   ·cases hu
   ·exact flatT_rng v hr.2.2.1 u hu
  ·exact flatP_rng r hr.2.2.2 u hu
end
theorem edsP_rng {lev:List Wd->Int} {s:Sch}:∀ (ps:Pts) (k:Nat),rngP ps->∀ e∈edsP lev s ps k,I64 e.cn
 | .nil,_,_,e,he=>by cases he
 | .cons p v r,k,hr,e,he=>by
  rw [edsP] at he;rw [rngP] at hr;rcases List.mem_cons.1 he with rfl | he
  ·exact hr.2.1
  ·exact edsP_rng r _ hr.2.2.2 e he
def rngN (n:Nd):Prop:=I64 n.lo/\I64 n.hi/\∀ e∈n.edges,I64 e.cn
theorem resNds_rng {S:Sch} (hr:rngS S) {n:Nd} (h:n∈resNds S):rngN n:=by
 rw [resNds_eq] at h;obtain ⟨t,ht,u,hu,k,rfl⟩:=ndsA_mem h
 have h1:rngT t:=by
  rcases List.mem_append.1 ht with h | h
  ·obtain ⟨x,hx,rfl⟩:=List.mem_map.1 h;exact hr.1 x hx
  ·simp only [List.mem_singleton] at h;subst h;exact hr.2
 have h2:=flatT_rng t h1 u hu;obtain ⟨uh,us⟩:=u;rw [rngT] at h2;exact ⟨h2.1,h2.2.1,edsP_rng us _ h2.2.2.2⟩
theorem ok26_spec (l:List Nat) (i:Int) (hl:l.length<=1099511627776):EvP Tryz.prog 26 [.sl 1 (dInts l) none,.v (.int .i64 i)] (.v (.bool (okN l i))):=by
 have hdl:=dInts_len l;by_cases h:0<=i/\i < l.length
 ·obtain ⟨j,rfl⟩:∃ j:Nat,i=j:=⟨i.toNat,by omega⟩;obtain ⟨z,hz⟩:∃ z,l[j]? = some z:=⟨_,gE (by omega)⟩
  have hE:okN l j=(decide (0 < z) && decide (z < 4097)):=by
   unfold okN;rw [Int.toNat_natCast,List.getD_eq_getElem?_getD,hz,decide_eq_true (by omega),Bool.true_and];rfl
  rw [hE];refine ev_go (P:=Tryz.prog) tt tt_ok 5000 27 [.tmp 4] Tryz.func26 rfl Tryz.ntmps26 rfl (nL rfl) (fun E9 w9 hn9 hm9=>?_);refine br (fun c=>?_) (fun c=>?_)
  ·refine ⟨_,⟨Int.natCast_nonneg _,dInts_get hz⟩,?_⟩;refine br (fun c2=>?_) (fun c2=>?_)
   ·have c2:0 < z:=by simpa [lastG,pickB] using c2
    refine ⟨_,⟨Int.natCast_nonneg _,dInts_get hz⟩,?_⟩;refine (congrArg (fun b=>DV.v (.bool b)) ?_:_=_);rw [decide_eq_true c2];simp [pickB];omega
   ·have c2:¬ 0 < z:=by simpa [lastG,pickB] using c2
    refine (congrArg (fun b=>DV.v (.bool b)) ?_:_=_);rw [decide_eq_false c2];simp [pickB]
  ·exfalso;have:(j:Int) < l.length:=by omega
   simp [hdl,pickB_and] at c;omega
 ·have hE:okN l i=false:=by
   cases hk:okN l i with
   | false=>rfl
   | true=>
    obtain ⟨j,rfl,h2,_⟩:=okN_iff.1 hk;rw [List.getD_eq_getElem?_getD,List.getElem?_eq_none (by omega)] at h2;exact (h2 rfl).elim
  rw [hE];refine ev_go (P:=Tryz.prog) tt tt_ok 5000 27 [.tmp 4] Tryz.func26 rfl Tryz.ntmps26 rfl (nL rfl) (fun E9 w9 hn9 hm9=>?_);refine br (fun c=>?_) (fun c=>?_)
  ·exfalso;simp [hdl,pickB_and] at c;omega
  ·exact (rfl:_=_)
def exS26:Sch:=⟨[⟨⟨#[97]⟩,0⟩],[],[],.mk ⟨2,0,3,9,0,[],⟨emptyB,0⟩⟩ .nil⟩
theorem ex26_fine:(resF exS26).1=0:=by decide +kernel
theorem ex26_ok1:okN (fszT (resNds exS26)) 0=true:=by decide +kernel
theorem ex26_ok2:okN (sszT (resNds exS26)) 0=true:=by decide +kernel
theorem ex26_v1:fstV (resNds exS26) (depT (resNds exS26)) (0:Int).toNat=valN 2 3:=by kernel_rfl
theorem ex26_v2:secV (resNds exS26) (depT (resNds exS26)) (sevT (resNds exS26)) (0:Int).toNat=valN 2 4:=by kernel_rfl
theorem nds_i64 {S:Sch} (hr:rngS S):∀ n∈resNds S,n.kind=2 -> -9223372036854775808<=n.lo/\n.hi<=9223372036854775807:=fun n hn _=>by
 have h:=resNds_rng hr hn;exact ⟨h.1.1,h.2.1.2⟩
theorem ex26_rng:∀ n∈resNds exS26,n.kind=2 -> -9223372036854775808<=n.lo/\n.hi<=9223372036854775807:=by
 have h:(resNds exS26).all (fun n=>decide (-9223372036854775808<=n.lo) && decide (n.hi<=9223372036854775807))=true:=by decide +kernel
 intro n hn _;have:=List.all_eq_true.1 h n hn;rw [Bool.and_eq_true] at this;exact ⟨of_decide_eq_true this.1,of_decide_eq_true this.2⟩
theorem lives26_spec:EvP Tryz.prog 20 [] (.v (.bool true)):=by
 have hwt:exS26.wt<=1099511627776:=by decide +kernel
 have hb:=(build_spec exS26 hwt).mono (Ψ:=fun r _ _=>BuiltΦ exS26 r) fun _ _ _ h=>builtΦ_of hwt h;refine ev_go (P:=Tryz.prog) tt tt_ok 5000 44 [.tmp 0] Tryz.func20 rfl Tryz.ntmps20 rfl (nL rfl) (fun E9 w9 hn9 hm9=>?_);refine call_e en21 rfl hb ax (fun r hr=>?_);rcases hr with ⟨hr,_⟩ | ⟨_,PC,hP,rfl⟩
 ·exact (hr ex26_fine).elim
 have h1:=sFirst_spec hP 0;rw [ex26_ok1,if_pos rfl,ex26_v1] at h1;have h2:=sSecond_spec hP ex26_rng 0;rw [ex26_ok2,if_pos rfl,ex26_v2] at h2;refine call_p en24 (h1) ax rfl ?_;refine call_p en25 (h2) ax rfl ?_;exact (rfl:_=_)
theorem fine26_spec (S:Sch) (hS:S.wt<=1099511627776):Ev Tryz.prog 19 [.agg (dSch S)] [] [] (fun r _ _=>FineΦ S r):=by
 have ga:=great17_spec S hS;have hwr:=wrong18_spec S hS;unfold FineΦ;generalize resF S=R at hwr ⊢;obtain ⟨levels,order,types,⟨rh,rp⟩⟩:=S;refine ev_go (P:=Tryz.prog) tt tt_ok 5000 12 [.tmp 2] Tryz.func19 rfl Tryz.ntmps19 rfl (nL rfl) (fun E9 w9 hn9 hm9=>?_);refine call_e en31 rfl ga ax (fun r hr=>?_);obtain ⟨g,rfl⟩:=hr
 cases g with
 | true=>
  exact ⟨false,rfl,fun h=>by cases h⟩
 | false=>
  refine call_p en73 (hwr) ax rfl ?_;refine ⟨_,ft_cmp _ _ R (0,0),?_⟩;refine ⟨_,rfl,fun h=>?_⟩;simp [pickB] at h;exact h.1
abbrev mk26 (A B:List (List DV)) (ND:List Nd) (rt:Int):List DV:=w26 2 1 A B ND rt (depT ND) (qL (depT ND) (sevT ND)) (fszT ND) (sszT ND)
theorem sevT_M {L:Nat} {ND:List Nd} (hok:∀ n∈ND,NdOK L ND.length n) (j:Nat):(sevT ND).getD j false=decide (1 < (qL (depT ND) (sevT ND)).getD j 0):=
 sevS_q (D:=depT ND) hok (fun j=>by
  have:=depN_get ND ND.length j
  rwa [depN_end] at this) j
theorem rfirst_spec {L:Nat} {ND:List Nd} (A B:List (List DV)) (rt:Int) (hok:∀ n∈ND,NdOK L ND.length n) (hsz:∀ n∈ND,n.edges.length<=1099511627776) {j:Nat} (h:(fszT ND).getD j 0≠0) :
  EvP Tryz.prog 27 [.agg (mk26 A B ND rt),.v (.int .i64 j)] (.agg (dVal (fstV ND (depT ND) j))):=by
 have h0:=(szT_pos (depOK ND)).1.1 (Nat.pos_of_ne_zero h);exact first26_spec 2 1 A B ND rt (depT ND) _ _ _ (depOK ND) hok hsz ND.length j (dep_in (depOK ND) h0) h0 ((depOK ND).le j)
theorem rsecond_spec {L:Nat} {ND:List Nd} (A B:List (List DV)) (rt:Int) (hok:∀ n∈ND,NdOK L ND.length n) (hsz:∀ n∈ND,n.edges.length<=1099511627776) (hrn:∀ n∈ND,n.kind=2 -> -9223372036854775808<=n.lo/\n.hi<=9223372036854775807) {j:Nat} (h:(sszT ND).getD j 0≠0) (h2:(sszT ND).getD j 0 < 4097) :
  EvP Tryz.prog 28 [.agg (mk26 A B ND rt),.v (.int .i64 j)] (.agg (dVal (secV ND (depT ND) (sevT ND) j))):=
 second26_spec 2 1 A B ND rt (depT ND) (qL (depT ND) (sevT ND)) (fszT ND) (sszT ND) (sevT ND) (depOK ND) hok hsz hrn (by rw [qL_len];exact (depOK ND).len) (fun j _=>sevT_M hok j) (fun i n hn h=>sevT_fix hn h) (fun i h=>otT_get h) 4096 j h (by omega) h2
theorem parts26 {S:Sch} {ND:List Nd} {PC:List DV} (hP:PlanR S ND PC) (hrn:∀ n∈ND,n.kind=2 -> -9223372036854775808<=n.lo/\n.hi<=9223372036854775807) (rt i:Int):∃ (U1 U2:Val) (o1 o2:Bool),
  EvP Tryz.prog 24 [.pt PC 0,.v (.int .i64 i)] (.tup [.agg (dVal U1),.v (.bool o1)])/\EvP Tryz.prog 25 [.pt PC 0,.v (.int .i64 i)] (.tup [.agg (dVal U2),.v (.bool o2)]) /\
  EvP Tryz.prog 26 [.sl 1 (dInts (fszT ND)) none,.v (.int .i64 i)] (.v (.bool o1))/\EvP Tryz.prog 26 [.sl 1 (dInts (sszT ND)) none,.v (.int .i64 i)] (.v (.bool o2)) /\
  (o1=true->∀ A B,EvP Tryz.prog 27 [.agg (mk26 A B ND rt),.v (.int .i64 i)] (.agg (dVal U1)))/\(o2=true->∀ A B,EvP Tryz.prog 28 [.agg (mk26 A B ND rt),.v (.int .i64 i)] (.agg (dVal U2))) /\
  (o1=false->U1=zeroV)/\(o2=false->U2=zeroV)/\U1.wt<=1099511627776/\U2.wt<=1099511627776:=by
 refine ⟨_,_,_,_,sFirst_spec hP i,sSecond_spec hP hrn i,ok26_spec _ i (by rw [szT_len];exact hP.nl),ok26_spec _ i (by rw [otT_len];exact hP.nl),fun h A B=>?_,fun h A B=>?_,fun h=>?_,fun h=>?_,?_,?_⟩
 ·obtain ⟨j,rfl,h1,h2⟩:=okN_iff.1 h;rw [if_pos h,Int.toNat_natCast];exact rfirst_spec A B rt hP.ok hP.esz h1
 ·obtain ⟨j,rfl,h1,h2⟩:=okN_iff.1 h;rw [if_pos h,Int.toNat_natCast];exact rsecond_spec A B rt hP.ok hP.esz hrn h1 h2
 ·rw [h];all_goals rfl
 ·rw [h];all_goals rfl
 ·split
  ·rename_i h;obtain ⟨j,rfl,h1,h2⟩:=okN_iff.1 h;have h0:=(szT_pos (depOK ND)).1.1 (Nat.pos_of_ne_zero h1);have:(fstV ND (depT ND) j).wt<=64 * (fszT ND).getD j 0:=fstV_wt (depOK ND) hP.ok _ _ (Nat.le_refl _) h0 h2;rw [Int.toNat_natCast];omega
  ·decide
 ·split
  ·rename_i h;obtain ⟨j,rfl,h1,h2⟩:=okN_iff.1 h;have:(secV ND (depT ND) (sevT ND) j).wt<=(sszT ND).getD j 0 * 33554432:=secondV_wt hP.ok 4096 j h1 (by omega) h2;rw [Int.toNat_natCast];omega
  ·decide
theorem values26_law (S:Sch) (hS:S.wt<=1099511627776) (hrS:rngS S) (i:Int):EvP Tryz.prog 4 [.agg (dSch S),.v (.int .i64 i)] (.v (.bool true)):=by
 have hf:=fine26_spec S hS;have hb:=(build_spec S hS).mono (Ψ:=fun r _ _=>BuiltΦ S r) fun _ _ _ h=>builtΦ_of hS h;have hw:=fun h=>build18_spec S hS h;have hsn:∀ n∈resNds S,n.names.length<=1099511627776:=fun n hn=>(resNds_sz hn hS).1;have hrn:=nds_i64 hrS;have hnil:=sFirst_nil i;obtain ⟨levels,order,types,⟨rh,rp⟩⟩:=S;refine ev_go (P:=Tryz.prog) tt tt_ok 5000 92 [.tmp 4] Tryz.func4 rfl Tryz.ntmps4 rfl (nL rfl) (fun E9 w9 hn9 hm9=>?_);refine call_e en19 rfl hf ax (fun r hr=>?_);obtain ⟨b,rfl,h0⟩:=hr
 cases b with
 | false=>
  refine call_p en20 (lives26_spec) ax rfl ?_;exact (rfl:_=_)
 | true=>
  have h0:=h0 rfl;have hw:=hw h0;refine call_e en21 rfl hb ax (fun r hr=>?_);rcases hr with ⟨hr,_⟩ | ⟨_,PC,hP,rfl⟩
  ·exact (hr h0).elim
  have hmk:=fun A B=>make26_spec 2 1 A B (resNds ⟨levels,order,types,.mk rh rp⟩) (resRoot ⟨levels,order,types,.mk rh rp⟩) hP.ok hP.nl hP.esz hsn;obtain ⟨U1,U2,o1,o2,hF,hS,hok1,hok2,hRF,hRS,hz1,hz2,hw1,hw2⟩:=parts26 hP hrn (resRoot ⟨levels,order,types,.mk rh rp⟩) i;have hs1:=same25_spec U1 hw1 U1;have hs2:=same25_spec U2 hw2 U2;rw [sameV_refl] at hs1 hs2;generalize resNds ⟨levels,order,types,.mk rh rp⟩=ND at hw hmk hok1 hok2 hRF hRS;generalize resRoot ⟨levels,order,types,.mk rh rp⟩=rt at hw hmk hRF hRS;cases o1<;>cases o2
  ·have hz1:=hz1 rfl;subst hz1;have hz2:=hz2 rfl;subst hz2;refine call_p en23 (hw) ax rfl ?_;refine call_p en22 (hmk _ _) ax rfl ?_;refine call_p en24 (hF) ax rfl ?_;refine call_p en25 (hS) ax rfl ?_;refine call_p en24 (hnil) ax rfl ?_;refine call_p en26 (hok1) ax rfl ?_;refine call_p en26 (hok2) ax rfl ?_;refine call_p en26 (hok1) ax rfl ?_;refine call_p en26 (hok2) ax rfl ?_;refine call_p en29 (hs1) ax rfl ?_;refine call_p en29 (hs2) ax rfl ?_;refine call_p en20 (lives26_spec) ax rfl ?_;exact (rfl:_=_)
  ·have hz1:=hz1 rfl;subst hz1;have hRS:=hRS rfl;obtain ⟨u2k,u2n,u2s,u2l⟩:=U2;refine call_p en23 (hw) ax rfl ?_;refine call_p en22 (hmk _ _) ax rfl ?_;refine call_p en24 (hF) ax rfl ?_;refine call_p en25 (hS) ax rfl ?_;refine call_p en24 (hnil) ax rfl ?_;refine call_p en26 (hok1) ax rfl ?_;refine call_p en26 (hok2) ax rfl ?_;refine call_p en28 (hRS _ _) ax rfl ?_;refine call_p en26 (hok1) ax rfl ?_;refine call_p en26 (hok2) ax rfl ?_;refine call_p en29 (hs1) ax rfl ?_;refine call_p en29 (hs2) ax rfl ?_;refine call_p en20 (lives26_spec) ax rfl ?_;exact (rfl:_=_)
  ·have hRF:=hRF rfl;obtain ⟨u1k,u1n,u1s,u1l⟩:=U1;have hz2:=hz2 rfl;subst hz2;refine call_p en23 (hw) ax rfl ?_;refine call_p en22 (hmk _ _) ax rfl ?_;refine call_p en24 (hF) ax rfl ?_;refine call_p en25 (hS) ax rfl ?_;refine call_p en24 (hnil) ax rfl ?_;refine call_p en26 (hok1) ax rfl ?_;refine call_p en27 (hRF _ _) ax rfl ?_;refine call_p en26 (hok2) ax rfl ?_;refine call_p en26 (hok1) ax rfl ?_;refine call_p en26 (hok2) ax rfl ?_;refine call_p en29 (hs1) ax rfl ?_;refine call_p en29 (hs2) ax rfl ?_;refine call_p en20 (lives26_spec) ax rfl ?_;exact (rfl:_=_)
  ·have hRF:=hRF rfl;obtain ⟨u1k,u1n,u1s,u1l⟩:=U1;have hRS:=hRS rfl;obtain ⟨u2k,u2n,u2s,u2l⟩:=U2;refine call_p en23 (hw) ax rfl ?_;refine call_p en22 (hmk _ _) ax rfl ?_;refine call_p en24 (hF) ax rfl ?_;refine call_p en25 (hS) ax rfl ?_;refine call_p en24 (hnil) ax rfl ?_;refine call_p en26 (hok1) ax rfl ?_;refine call_p en27 (hRF _ _) ax rfl ?_;refine call_p en26 (hok2) ax rfl ?_;refine call_p en28 (hRS _ _) ax rfl ?_;refine call_p en26 (hok1) ax rfl ?_;refine call_p en26 (hok2) ax rfl ?_;refine call_p en29 (hs1) ax rfl ?_;refine call_p en29 (hs2) ax rfl ?_;refine call_p en20 (lives26_spec) ax rfl ?_;exact (rfl:_=_)
end Go.Proofs.YtadbccicdbopcaaGreat
