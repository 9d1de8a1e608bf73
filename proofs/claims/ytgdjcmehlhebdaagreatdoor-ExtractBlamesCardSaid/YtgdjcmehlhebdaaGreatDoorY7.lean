/- Walks: bytes compared, one of two -/
import Derived.Test.YtgdjcmehlhebdaaGreatDoorXP
set_option maxHeartbeats 25600000
namespace Go.Proofs.YtgdjcmehlhebdaaGreatDoor
open _root_.Go.Proofs.Tryz
open Go.E
set_option maxRecDepth 4000
theorem zoA (A : OAd) (c : Nat) (t1 : List UInt8) (B : OAd) (d : Nat) (t2 : List UInt8) (w0 : World) (hA : Ro w0 [] (SlA A (zad t1))) (hB : Ro w0 [] (SlA B (zad t2))) : Calls prog 113 #[.slice A t1.length c, .slice B t2.length d] w0 (Ret w0 (.bool (decide (t1 = t2)))) := by
 refine Calls.ret ?_
 refine co 10 [.tmp 4] func113 ?_
 refine gw ?_
 refine S.r (Qt.bytesStrA (bs := t1) uT uT uT rfl rfl (Has.ro hA)) (gw ?_)
 refine S.r (Qt.bytesStrA (bs := t2) uT uT uT rfl rfl (Has.ro hB)) ?_
 refine S.r (Qt.eqStrD (s := t1) (t := t2) rfl rfl) (gw ?_)
 refine TC.ret (fR ?_)
 exact ⟨rfl, rfl⟩
theorem zhQ (A1 : OAd) (n1 a1 : Nat) (B1 : OAd) (m1 b1 : Nat) (A2 : OAd) (n2 a2 : Nat) (B2 : OAd) (m2 b2 : Nat) (w0 : World) :
  Calls prog 143 #[.bool true, .agg #[.slice A1 n1 a1, .slice B1 m1 b1], .agg #[.slice A2 n2 a2, .slice B2 m2 b2]] w0 (Post w0 [] fun v L => v = .agg #[.slice A1 n1 a1, .slice B1 m1 b1] ∧ L = []) := by
 refine co 10 [.cell 6 182] func143 ?_
 refine gw ?_
 intro b4
 refine gw ?_
 intro b5
 refine gw ?_
 intro b6
 refine gw ?_
 refine S.r (Qt.load rfl (Ld.all (vs := vl (.agg #[.slice A1 n1 a1, .slice B1 m1 b1])) hz2 rT ce182)) ?_
 refine S.opN rfl (OpV.storeV0 rfl cw (by exact ce182) (by rfl) (by rfl) ?_)
 refine gw ?_
 refine TC.ret ?_
 refine finQ.ret (RVs.cell rfl (Ld.all hz0 rT (ce182)) RVs.nil) sn ?_
 exact ⟨rfl, rfl⟩
theorem zgG (A1 : OAd) (n1 a1 : Nat) (B1 : OAd) (m1 b1 : Nat) (A2 : OAd) (n2 a2 : Nat) (B2 : OAd) (m2 b2 : Nat) (w0 : World) :
  Calls prog 143 #[.bool false, .agg #[.slice A1 n1 a1, .slice B1 m1 b1], .agg #[.slice A2 n2 a2, .slice B2 m2 b2]] w0 (Post w0 [] fun v L => v = .agg #[.slice A2 n2 a2, .slice B2 m2 b2] ∧ L = []) := by
 refine co 10 [.cell 6 182] func143 ?_
 refine gw ?_
 intro b4
 refine gw ?_
 intro b5
 refine gw ?_
 intro b6
 refine gw ?_
 refine S.r (Qt.load rfl (Ld.all (vs := vl (.agg #[.slice A2 n2 a2, .slice B2 m2 b2])) hz1 rT ce182)) ?_
 refine S.opN rfl (OpV.storeV0 rfl cw (by exact ce182) (by rfl) (by rfl) ?_)
 refine gw ?_
 refine TC.ret ?_
 refine finQ.ret (RVs.cell rfl (Ld.all hz0 rT (ce182)) RVs.nil) sn ?_
 exact ⟨rfl, rfl⟩
theorem zgH (A : OAd) (c : Nat) (b : List UInt8) (w0 : World) (hR : Ro w0 [] (SlA A (zad b))) (hl : b.length ≤ 70368744177664) :
  Calls prog 111 #[.slice A b.length c] w0 (Post w0 [] fun v L => ∃ O d, v = .slice O b.length d ∧ L = [OwnA 5 1 O b.length d (zad b)]) := by
 refine co 8 [.tmp 2] func111 ?_
 refine TC.ownNil 5 1 (gw ?_)
 refine S.r (Qt.eqsl uT rfl) (gw ?_)
 refine TC.ifb rfl (fun hn => gw ?_) (fun hn => gw ?_)
 ·refine TC.ret (fin1 sr ?_)
  obtain rfl : A = none := Option.isNone_iff_eq_none.1 hn
  obtain rfl : b = [] := zhy (SlA.none_nil hR.1)
  exact ⟨none, 0, rfl, rfl⟩
 ·refine S.o (OpV.slice0 uT ⟨_, elem5⟩ (fun g5 => ?_))
  refine gw ?_
  refine S.o (OpV.app0 (bytes := 1) (news := zad b) uT elem5 rfl rfl (Has.ro hR) (by rw [zal]; omega) (zaw _) (by simp only [maxLen]; omega) ow (fun O d => ?_))
  refine gw ?_
  refine TC.ret (fin1 (sk (sd sn)) ?_)
  exact ⟨O, d, by rw [Nat.zero_add]; rfl, by rw [Nat.zero_add, List.nil_append]⟩
theorem zju (A : OAd) (c : Nat) (t1 : List UInt8) (B : OAd) (d : Nat) (t2 : List UInt8) (w0 : World) (hA : Ro w0 [] (SlA A (zad t1))) (hB : Ro w0 [] (SlA B (zad t2))) (h1 : t1.length ≤ 70368744177664) (h2 : t2.length ≤ 70368744177664) (hT : Tabs 3 1 w0 []) :
  Calls prog 50 #[.agg #[.slice A t1.length c, .slice B t2.length d]] w0 (Post w0 [] fun v L => v = .bool (isF (t1, t2)) ∧ L = []) := by
 refine co 18 [.tmp 2] func50 ?_
 refine gw ?_
 intro b1
 refine gw ?_
 refine dw ([], []) (gw ?_)
 by_cases he : t1 = t2
 ·refine D.c0 4 rfl J113 (fun w hw => (by have h := zoA A c t1 B d t2 w (Rd.ro hA w hw) (Rd.ro hB w hw); rw [decide_eq_true he] at h; exact h)) (gw ?_)
  refine D.fi ?_
  refine TC.ret (fR ?_)
  exact ⟨by rw [isF, decide_eq_false (fun h => h he)]; rfl, rfl⟩
 ·refine D.c0 4 rfl J113 (fun w hw => (by have h := zoA A c t1 B d t2 w (Rd.ro hA w hw) (Rd.ro hB w hw); rw [decide_eq_false he] at h; exact h)) (gw ?_)
  refine D.cg0 9 rfl rfl J114 (fun w hw => Calls.ret (zdh A c t1 w (Rd.ro hA w hw) h1 (hT.at hw))) (gw ?_)
  refine D.cg0 12 rfl rfl J114 (fun w hw => Calls.ret (zdh B d t2 w (Rd.ro hB w hw) h2 (hT.at hw))) ?_
  refine D.gY 13 rfl rfl (Qt.eqH (a := shaH t1) (b := shaH t2) guard49 uT uT cT rfl rfl) (gw ?_)
  refine D.fi ?_
  refine TC.ret (fR ?_)
  exact ⟨by rw [isF, decide_eq_true he, Bool.true_and]; rfl, rfl⟩
theorem build66 (A : OAd) (n c : Nat) (B : OAd) (m d : Nat) (w : World) : (Instr.build 114 #[(0, .slice A n c), (1, .slice B m d)]).run prog w = .ok (.agg #[.slice A n c, .slice B m d]) w := by kernel_rfl
def TxQ (X : Option (List (List UInt8))) (v : Value) (L : List Assn) : Prop := match X with
 | none => ∃ k : Int, v = .tuple #[.slice none 0 0, .iface 73 (.int .i64 k)] ∧ L = []
 | some xs => ∃ (O : OAd) (d : Nat) (tt : List Tx), v = .tuple #[.slice O tt.length d, .nilIface] ∧ L = [OwnA 112 1 O tt.length d (tt.flatMap txL), Many (tt.map zaN)] ∧ tt.map (fun t => t.2.2) = xs ∧ tt.length ≤ 16384
def TxR (X : Option (List (List UInt8))) (v : Value) (L : List Assn) : Prop := match X with
 | none => v = .tuple #[.slice none 0 0, .bool false] ∧ L = []
 | some xs => ∃ (O : OAd) (d : Nat) (tt : List Tx), v = .tuple #[.slice O tt.length d, .bool true] ∧ L = [OwnA 112 1 O tt.length d (tt.flatMap txL), Many (tt.map zaN)] ∧ tt.map (fun t => t.2.2) = xs ∧ tt.length ≤ 16384
def PxQ (T : TypeId) (E : List Pr) (v : Value) (L : List Assn) : Prop := ∃ (O : OAd) (d : Nat) (ps : List Px) (Ls : List Assn), v = .slice O ps.length d ∧ L = [OwnA T 2 O ps.length d (ps.flatMap pxL), Many Ls] ∧ ps.map pxT = E ∧ ps.length ≤ 16384 ∧ ∀ p ∈ ps, zaN p.1 ∈ Ls ∧ zaN p.2 ∈ Ls
theorem zhR (cs ds : List Value) (hc : cs.length = 33) (hd : ds.length = 33) (hc1 : cs.all (·.oneCell') = true) (hd1 : ds.all (·.oneCell') = true) (w0 : World) :
  Calls prog 156 #[.bool true, .agg cs.toArray, .agg ds.toArray] w0 (Post w0 [] fun v L => v = .agg cs.toArray ∧ L = []) := by
 refine co 10 [.cell 6 198] func156 ?_
 refine gw ?_
 intro b4
 refine gw ?_
 intro b5
 refine gw ?_
 intro b6
 refine gw ?_
 refine S.r (Qt.load rfl (Ld.all (vs := cs) hz2 rT (by rw [hc]; exact ce198))) ?_
 refine S.opN rfl (OpV.storeV0 (v := .agg cs.toArray) rfl rfl (by rw [zav, hc]; exact ce198) (hc1) (by rw [zav, hc]; rfl) ?_)
 refine gw ?_
 refine TC.ret ?_
 refine finQ.ret (RVs.cell rfl (Ld.all hz0 rT (by rw [zav, hc]; exact ce198)) RVs.nil) sn ?_
 exact ⟨rfl, rfl⟩
theorem zgI (cs ds : List Value) (hc : cs.length = 33) (hd : ds.length = 33) (hc1 : cs.all (·.oneCell') = true) (hd1 : ds.all (·.oneCell') = true) (w0 : World) :
  Calls prog 156 #[.bool false, .agg cs.toArray, .agg ds.toArray] w0 (Post w0 [] fun v L => v = .agg ds.toArray ∧ L = []) := by
 refine co 10 [.cell 6 198] func156 ?_
 refine gw ?_
 intro b4
 refine gw ?_
 intro b5
 refine gw ?_
 intro b6
 refine gw ?_
 refine S.r (Qt.load rfl (Ld.all (vs := ds) hz1 rT (by rw [hd]; exact ce198))) ?_
 refine S.opN rfl (OpV.storeV0 (v := .agg ds.toArray) rfl rfl (by rw [zav, hd]; exact ce198) (hd1) (by rw [zav, hd]; rfl) ?_)
 refine gw ?_
 refine TC.ret ?_
 refine finQ.ret (RVs.cell rfl (Ld.all hz0 rT (by rw [zav, hd]; exact ce198)) RVs.nil) sn ?_
 exact ⟨rfl, rfl⟩
theorem zdp (cb : Nat) (O : OAd) (tt : List Tx) (d l : Nat) (h1 : 1 ≤ l) (h2 : l ≤ 32) (a b : H32) (hn : tt.length < 16384) (w0 : World) (h0 : Sat w0 [Blk cb 229 [.slice O (tt).length d], OwnA 112 1 O (tt).length d ((tt).flatMap txL), Many ((tt).map zaN)]) (hT : Tabs 3 1 w0 (fps [Blk cb 229 [.slice O (tt).length d], OwnA 112 1 O (tt).length d ((tt).flatMap txL), Many ((tt).map zaN)])) :
  Calls prog 183 #[.pointer (some ⟨cb, 0, none⟩), .int .i64 (l : Int), hv a, hv b] w0 (Post w0 (fps [Blk cb 229 [.slice O (tt).length d], OwnA 112 1 O (tt).length d ((tt).flatMap txL), Many ((tt).map zaN)]) fun v L => ∃ O' d' t, v = .tuple #[hv (zbj l a b), .nilIface] ∧ L = [Blk cb 229 [.slice O' (tt ++ [t]).length d'], OwnA 112 1 O' (tt ++ [t]).length d' ((tt ++ [t]).flatMap txL), Many ((tt ++ [t]).map zaN)] ∧ t.2.2 = zaM l a b) := by
 refine cof (L := [Blk cb 229 [.slice O (tt).length d], OwnA 112 1 O (tt).length d ((tt).flatMap txL), Many ((tt).map zaN)]) 35 [.cell 8 49, .tmp 9] func183 h0 ?_
 refine gw ?_
 intro b6
 refine gw ?_
 intro b7
 refine gw ?_
 intro b8
 refine gw ?_
 refine S.cn J176 (fun w hw => zdi l h1 h2 a b w) ?_
 rintro v L' ⟨Ot, dt, rfl, rfl⟩
 refine TL.manyJoin (pc pm5) (gw ?_)
 refine S.o (OpV.slice1 (bytes := 24) (v := .slice Ot (zaM l a b).length dt) uT elem112 (by decide) rfl rfl (fun g29 => ?_))
 refine S.o (OpV.app6 (bytes := 24) (news := [.slice Ot (zaM l a b).length dt]) uT elem112 rfl rfl (Has.blk (cs := [.slice Ot (zaM l a b).length dt]) hz0) rfl (by intro u hu; rw [List.mem_singleton.1 hu]; rfl) (by simp only [maxLen]; omega) ow (fun O3 d3 => ?_))
 refine gw ?_
 refine S.opN rfl (OpV.storeC5 rfl cw cT rfl rfl (Nat.le_of_ble_eq_true rfl) ?_)
 refine gw ?_
 refine S.c0 J114 (fun w hw => Calls.ret (zdh Ot dt (zaM l a b) w (Rd.own (e := 5) (sz := 1) (Rd.many (A := OwnA 5 1 Ot (zaM l a b).length dt (zad (zaM l a b))) (Rd.at 1 rfl) (List.mem_append.2 (.inr (List.mem_singleton.2 rfl)))) w hw) (by rw [zba]; decide) (hT.at hw))) ?_
 refine S.opN rfl (OpV.storeV2 (v := hv (_)) rfl rfl (zab ce49) (zai _) (zaf _) ?_)
 refine gw ?_
 refine TC.ret ?_
 refine finQ.ret (RVs.cell rfl (Ld.all hz2 rT (zab ce49)) rv) (Sub.trans (sk (sk (sk (sd (sd (sd (sd sn0))))))) (Sub.trans (sk (Sub.trans (sk (Sub.trans (sk sr) (Sub.of_perm pm1))) (Sub.of_perm pm5))) (Sub.of_perm pm5))) ?_
 refine ⟨O3, d3, (Ot, dt, zaM l a b), rfl, ?_, rfl⟩
 simp only [List.length_append, List.flatMap_append, List.map_append]
 rfl
theorem zjv (x : H32) (i : Nat) (A : OAd) (c : Nat) (ps : List H32) (hi : i < 18446744073709551616) (hf : ¬ zdk i ps.length) (w0 : World) :
  Calls prog 155 #[.int .u64 (i : Int), .agg (hvl x ++ [Value.slice A ps.length c]).toArray] w0 (Post w0 [] fun v L => TxQ none v L) := by
 refine co 67 [.tmp 4, .tmp 5] func155 ?_
 refine gw ?_
 intro b3
 refine gw ?_
 refine S.r (Qt.load rfl (Ld.row (vs := hvl x) hz0 rT (by rw [zag]; exact ce49) (zcT x _))) (gw ?_)
 refine S.r (Qt.load rfl (Ld.one (v := .slice A ps.length c) hz0 oT (zbQ x _))) ?_
 refine S.c0 J170 (fun w hw => zqP x i A ps.length c hi hf w) (gw ?_)
 intro b6
 refine S.opN rfl (OpV.storeV0 (v := hv (_)) rfl rfl (zab ce49) (zai _) (zaf _) ?_)
 refine gw ?_
 refine TC.ret (fR ?_)
 exact ⟨1, rfl, rfl⟩
theorem zkQ (x : H32) (i : Nat) (A : OAd) (c : Nat) (ps : List H32) (hi : i < 18446744073709551616) (hf : zdk i ps.length) (w0 : World) (hR : Ro w0 [] (SlA A (hcs ps))) (hT : Tabs 3 1 w0 []) :
  Calls prog 155 #[.int .u64 (i : Int), .agg (hvl x ++ [Value.slice A ps.length c]).toArray] w0 (Post w0 [] fun v L => TxQ (some (zix x i ps)) v L) := by
 refine co 67 [.tmp 4, .tmp 5] func155 ?_
 have hf1 := hf.1
 refine gw ?_
 intro b3
 refine gw ?_
 refine S.r (Qt.load rfl (Ld.row (vs := hvl x) hz0 rT (by rw [zag]; exact ce49) (zcT x _))) (gw ?_)
 refine S.r (Qt.load rfl (Ld.one (v := .slice A ps.length c) hz0 oT (zbQ x _))) ?_
 refine S.c0 J170 (fun w hw => zfi x i A ps.length c ps rfl hi hf w (Rd.ro hR w hw) (hT.at hw)) (gw ?_)
 intro b6
 refine S.opN rfl (OpV.storeV0 (v := hv (_)) rfl rfl (zab ce49) (zai _) (zaf _) ?_)
 refine gw ?_
 refine S.r (Qt.build (v := .agg #[.slice none 0 0]) rfl (fun _ => by kernel_rfl)) (gw ?_)
 intro b29
 refine gw ?_
 refine S.r (Qt.load rfl (Ld.row (vs := hvl x) hz2 rT (by rw [zag]; exact ce49) (zcT x _))) (gw ?_)
 intro b9
 refine S.opN rfl (OpV.storeV0 (v := hv (x)) rfl rfl (zab ce49) (zai _) (zaf _) ?_)
 refine gw ?_
 refine S.r (Qt.load rfl (Ld.one (v := .slice A ps.length c) hz3 oT (zbQ x _))) (gw ?_)
 refine TC.ownNil 112 1 ?_
 refine TC.manyNil ?_
 refine TC.loop (γ := Nat × OAd × List Tx × Nat) [36, 37, 38, 39, 11, 10, 40, 41, 12, 13, 42, 43, 44, 45, 46, 47, 48, 50, 51, 52, 53, 54, 55, 49, 56, 57, 14, 15, 58, 59, 60, 4, 5, 61, 62, 35] (fun g => [(35, .int .i64 ((g.1 : Nat) : Int))]) (fun g => [Blk b29 229 [.slice g.2.1 g.2.2.1.length g.2.2.2], OwnA 112 1 g.2.1 (g.2.2.1).length g.2.2.2 ((g.2.2.1).flatMap txL), Many ((g.2.2.1).map zaN), Blk b9 49 (hvl (zaz x i ps g.1)), Blk b3 198 (vl (.agg (hvl x ++ [Value.slice A ps.length c]).toArray))]) (fun g => g.1 ≤ ps.length ∧ g.2.2.1.map (fun t => t.2.2) = (List.range g.1).map (zc2 x i ps)) (fun g => ps.length - g.1) ((0, none, [], 0))
  ⟨Nat.zero_le _, rfl⟩ ⟨Out.refl _ _, ag⟩ (Sub.trans (sk (sk (sk (sk (sk (sd sn0)))))) (Sub.trans (sk (Sub.trans (sk (sk (sk (Sub.trans (sk sr) (Sub.of_perm pm1))))) (Sub.of_perm pm1))) (Sub.of_perm pm3))) ?_
 rintro ⟨k, O, tt, d⟩ u ⟨hk, htt⟩
 dsimp only at hk htt
 have htl : tt.length = k := by have := congrArg List.length htt; simpa using this
 show TC _ _ _ (puts [(35, .int .i64 (k : Int))] (scr _ u _)) [Blk b29 229 [.slice O tt.length d], OwnA 112 1 O (tt).length d ((tt).flatMap txL), Many ((tt).map zaN), Blk b9 49 (hvl (zaz x i ps k)), Blk b3 198 (vl (.agg (hvl x ++ [Value.slice A ps.length c]).toArray))]
 refine gw ?_
 refine S.dec rfl rfl (Qt.lt rfl rfl) (fun h36 => gw ?_) (fun h36 => gw ?_)
 ·refine S.r (Qt.index uT cT rfl rfl ow (Has.ro hR) (by rw [zah]; omega)) ?_
  refine S.r (Qt.load rfl (Ld.hashS (Has.ro hR) k rT ce49 ow rfl)) (gw ?_)
  intro b11
  refine gw ?_
  refine S.opN rfl (OpV.storeV0 (v := hv (ps.getD k zac)) rfl rfl (zab ce49) (zai _) (zaf _) ?_)
  refine gw ?_
  refine dr ([4, 5], [2, 3]) (gw ?_)
  refine D.two (k1 := 2) (k2 := 3) sr rfl rfl (by kernel_rfl) (by kernel_rfl) (by kernel_rfl) (by kernel_rfl) (by kernel_rfl) (by kernel_rfl) rfl rfl rfl ze49 ze49 (fun b12 b13 => ?_)
  refine D.oN 4 rfl (OpV.storeV1 (v := hv (zaz x i ps k)) rfl rfl (zab ce49) (zai _) (zaf _) (sbk ?_))
  refine D.oN 5 rfl (OpV.storeV0 (v := hv (ps.getD k zac)) rfl rfl (zab ce49) (zai _) (zaf _) (sbk ?_))
  refine D.fi (gw ?_)
  refine S.r (Qt.shrN rfl rfl km) ?_
  refine S.r (Qt.as (Qt.andN (b := 1) rfl rfl (by have := Nat.div_le_self i (2 ^ k); simp only [kmax]; omega) km) (by rw [Nat.and_one_is_mod])) ?_
  refine S.dec rfl rfl (Qt.eq (b := 1) rfl rfl) (fun h46 => gw ?_) (fun h46 => gw ?_)
  ·refine S.draw ([2, 3], []) mixed (sd (sd (sk (sk (sk (sk (sk (sk sn0)))))))) (gw ?_)
   refine D.oN 2 rfl (OpV.storeV1 (v := hv (ps.getD k zac)) rfl rfl (zab ce49) (zai _) (by rw [zaf, zaf]) (sbk ?_))
   refine D.oN 3 rfl (OpV.storeV0 (v := hv (zaz x i ps k)) rfl rfl (zab ce49) (zai _) (by rw [zaf, zaf]) (sbk ?_))
   refine D.fi (gw ?_)
   refine S.o (OpV.con (Pre := [Blk b29 229 [.slice O tt.length d], OwnA 112 1 O (tt).length d ((tt).flatMap txL), Many ((tt).map zaN)]) (R := _) J183 rfl (pm3.trans (pc (pm3.trans (pc pm3)))) (fun w hw => zdp b29 O tt d (k + 1) ow ow (ps.getD k zac) (zaz x i ps k) ow w hw.sat.left (hT.pre hw)) ?_)
   rintro v L' ⟨O', d', t, rfl, rfl, et⟩
   have hst : zbj (k + 1) (ps.getD k zac) (zaz x i ps k) = zaz x i ps (k + 1) := (zdL h46).symm
   have hx2 : zaM (k + 1) (ps.getD k zac) (zaz x i ps k) = zc2 x i ps k := by unfold zc2; rw [if_pos h46]
   rw [hst]
   refine gw ?_
   intro b14
   refine S.opN rfl (OpV.storeV0 (v := hv (zaz x i ps (k + 1))) rfl rfl (zab ce49) (zai _) (zaf _) ?_)
   refine gw ?_
   refine S.opN rfl (OpV.storeV7 (v := hv (zaz x i ps (k + 1))) rfl rfl (zab ce49) (zai _) (by rw [zaf, zag]) ?_)
   refine gw ?_
   refine ⟨(k + 1, O', tt ++ [t], d'), ?_, ?_, ⟨?_, ag⟩, Sub.trans (sk (sk (sk (sk (sk (sd (sd (sd (sd sn0))))))))) (Sub.trans (sk (Sub.trans (sk (Sub.trans (sk (Sub.trans (sk (Sub.trans (sk sr) (Sub.of_perm pm4))) (Sub.of_perm pm4))) (Sub.of_perm pm1))) (Sub.of_perm pm1))) (Sub.of_perm pm1))⟩
   ·exact ⟨by show _ ≤ _; dsimp only; omega, by dsimp only; rw [List.map_append, htt, List.range_succ, List.map_append, List.map_singleton, List.map_singleton, et, hx2]⟩
   ·show _ < _; dsimp only; omega
   exact outs
  ·refine S.o (OpV.con (Pre := [Blk b29 229 [.slice O tt.length d], OwnA 112 1 O (tt).length d ((tt).flatMap txL), Many ((tt).map zaN)]) (R := _) J183 rfl (pm3.trans (pc (pm3.trans (pc pm3)))) (fun w hw => zdp b29 O tt d (k + 1) ow ow (zaz x i ps k) (ps.getD k zac) ow w hw.sat.left (hT.pre hw)) ?_)
   rintro v L' ⟨O', d', t, rfl, rfl, et⟩
   have hst : zbj (k + 1) (zaz x i ps k) (ps.getD k zac) = zaz x i ps (k + 1) := (zc7 h46).symm
   have hx2 : zaM (k + 1) (zaz x i ps k) (ps.getD k zac) = zc2 x i ps k := by unfold zc2; rw [if_neg h46]
   rw [hst]
   refine gw ?_
   intro b14
   refine S.opN rfl (OpV.storeV0 (v := hv (zaz x i ps (k + 1))) rfl rfl (zab ce49) (zai _) (zaf _) ?_)
   refine gw ?_
   refine S.opN rfl (OpV.storeV7 (v := hv (zaz x i ps (k + 1))) rfl rfl (zab ce49) (zai _) (by rw [zaf, zag]) ?_)
   refine gw ?_
   refine ⟨(k + 1, O', tt ++ [t], d'), ?_, ?_, ⟨?_, ag⟩, Sub.trans (sk (sk (sk (sk (sk (sd (sd (sd (sd sn0))))))))) (Sub.trans (sk (Sub.trans (sk (Sub.trans (sk (Sub.trans (sk (Sub.trans (sk sr) (Sub.of_perm pm4))) (Sub.of_perm pm4))) (Sub.of_perm pm1))) (Sub.of_perm pm1))) (Sub.of_perm pm1))⟩
   ·exact ⟨by show _ ≤ _; dsimp only; omega, by dsimp only; rw [List.map_append, htt, List.range_succ, List.map_append, List.map_singleton, List.map_singleton, et, hx2]⟩
   ·show _ < _; dsimp only; omega
   exact outs
 ·refine TC.exit (TC.seq (gw ?_))
  refine TC.ret (finQ.ret rv (Sub.trans (sk (sk (sd (sd (sd sn0))))) (Sub.trans (sk (Sub.trans (sk sr) (Sub.of_perm pm1))) (Sub.of_perm pm1))) ?_)
  obtain rfl : k = ps.length := by omega
  exact ⟨O, d, tt, rfl, rfl, htt, by omega⟩
end Go.Proofs.YtgdjcmehlhebdaaGreatDoor
