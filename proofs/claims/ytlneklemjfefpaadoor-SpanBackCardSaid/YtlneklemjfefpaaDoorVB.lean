/-
  Walks: a row joined by twos. Printed by a program of ours.
-/
import Derived.Test.YtlneklemjfefpaaDoorVA
import Derived.Test.YtlneklemjfefpaaDoorEY
namespace Go.Proofs.YtlneklemjfefpaaDoor
open Go.E
set_option linter.unusedVariables false
set_option maxRecDepth 4000
theorem Tryd.ent138 : Enters Tryd.prog 138 := ⟨_, Tryd.func138, by kernel_rfl, rfl⟩
theorem Tryd.ent156 : Enters Tryd.prog 156 := ⟨_, Tryd.func156, by kernel_rfl, rfl⟩
def pairF (lv : Nat) (xs : List H32) (i : Nat) : H32 := joinH lv (xs.getD (2 * i) zeroH) (xs.getD (2 * i + 1) zeroH)
theorem Ro.part {w : World} {M : List Nat} {A : Option Addr} {cs : List Value} (h : Ro w M (SlA A cs)) (k n : Nat) : Ro w M (SlA (A.map (·.add k)) ((cs.drop k).take n)) := by
  have h1 := h.cut (c := 0) (l := 1) (k := k) (fun e => by cases e)
  rw [if_neg (by decide)] at h1
  exact h1.take n
theorem pair_part {xs : List H32} {m i : Nat} (hm : xs.length = 2 * m) (hi : i < m) : ((hcs xs).drop (2 * i * 32)).take 64 = hcs [xs.getD (2 * i) zeroH, xs.getD (2 * i + 1) zeroH] := by
  rw [hcs_drop, show (64 : Nat) = 2 * 32 from rfl, hcs_take]
  congr 1
  have h1 : 2 * i < xs.length := by omega
  have h2 : 2 * i + 1 < xs.length := by omega
  rw [List.drop_eq_getElem_cons h1, List.drop_eq_getElem_cons h2]
  rw [show xs.getD (2 * i) zeroH = xs[2 * i] by simp [List.getD, h1], show xs.getD (2 * i + 1) zeroH = xs[2 * i + 1] by simp [List.getD, h2]]
  rfl
set_option maxHeartbeats 400000 in
theorem chunkh_walk (A : Option Addr) (N c n : Nat) (hn : 1 ≤ n) (w0 : World) :
    Calls Tryd.prog 138 #[.slice A N c, .int .i64 (n : Int)] w0 (Post w0 [] fun v L => ∃ b2 b3, v = .func (.func 156) #[] #[.pointer (some ⟨b2, 0, none⟩), .pointer (some ⟨b3, 0, none⟩)] ∧ L = [Blk b3 3 [.int .i64 (n : Int)], Blk b2 44 [.slice A N c]]) := by
  refine Calls.of (L := []) (n := 9) (rs := [.tmp 4]) Tryd.func138 rfl rfl rfl (Nat.le_of_ble_eq_true rfl) (Sat.nil _) ?_
  refine TC.seq ?_
  refine TC.region ?_
  refine S.opS rfl rfl (OpV.box (by conv => lhs; whnf) (fun b2 => ?_))
  refine S.opS rfl rfl (OpV.box (by conv => lhs; whnf) (fun b3 => ?_))
  refine S.q rfl rfl (Qt.assign (by conv => lhs; whnf)) ?_
  refine S.nil ?_
  refine TC.seq ?_
  refine TC.seq ?_
  refine TC.region ?_
  refine S.q rfl rfl (Qt.load rfl (Ld.one (Has.at 0 rfl) Tryd.one3 (rfl))) ?_
  refine S.q rfl rfl (Qt.dF (Qt.lt (b := 1) rfl rfl) (by omega)) ?_
  refine S.nil ?_
  refine S.if_f rfl ?_
  refine TC.skip ?_
  refine TC.seq ?_
  refine TC.region ?_
  refine S.q rfl rfl (Qt.makeFuncL (fs := []) (cs := [.pointer (some ⟨b2, 0, none⟩), .pointer (some ⟨b3, 0, none⟩)]) rfl rfl) ?_
  refine S.q rfl rfl (Qt.assign (by conv => lhs; whnf)) ?_
  refine S.nil ?_
  refine TC.ret ?_
  refine finQ.ret (RVs.tmp (by conv => lhs; whnf) RVs.nil) (Sub.refl _) ?_
  exact ⟨_, _, rfl, rfl⟩
set_option maxHeartbeats 400000 in
theorem chunkh1_walk (A : Option Addr) (m c n : Nat) (hn : 1 ≤ n) (hc : n * m ≤ c) (hc2 : c ≤ 9223372036854775807) (b2 b3 l : Nat) (J : Bool → List (Fin m) → List Assn → Prop) (w0 : World) (L0 : List Assn) (h0 : Sat w0 L0) (hJ : J true [] L0) (hB2 : Ro w0 (fps L0) (Blk b2 44 [.slice A (n * m) c])) (hB3 : Ro w0 (fps L0) (Blk b3 3 [.int .i64 (n : Int)]))
    (hY : ∀ pre x w' L', (fun ys : List (Fin m) => ∃ j, j ≤ m ∧ ys = (List.finRange m).take j) (pre ++ [x]) → J true pre L' → St w0 (fps L0) L' w' → YieldAt Fence.wide 0 Tryd.prog l ((fun i : Fin m => [.slice (A.map (·.add (n * i.val * 32))) n n]) x).toArray w' fun e w'' => ∃ L'', St w' (fps L') L'' w'' ∧ ((e = .returned (.bool true) ∧ J true (pre ++ [x]) L'') ∨ (e = .returned (.bool false) ∧ J false (pre ++ [x]) L''))) :
    Calls Tryd.prog 156 #[.func (.yield l) #[] #[], .pointer (some ⟨b2, 0, none⟩), .pointer (some ⟨b3, 0, none⟩)] w0 (Post w0 (fps L0) fun v L => (∃ xs, xs = List.finRange m ∧ J true xs L) ∨ (∃ pre, True ∧ J false pre L)) := by
  refine Calls.of (L := L0) (n := 31) (rs := []) Tryd.func156 rfl rfl rfl (Nat.le_of_ble_eq_true rfl) (h0) ?_
  refine TC.seq ?_
  refine TC.region ?_
  refine S.q rfl rfl (Qt.assign (by conv => lhs; whnf)) ?_
  refine S.nil ?_
  refine TC.block ?_
  refine TC.loop (γ := Nat × List Assn) [6, 7, 8, 9, 13, 14, 15, 16, 17, 18, 5, 19, 20, 21, 22, 23, 24, 25, 26, 27, 28, 29, 30, 10, 11, 12, 4] (fun g => [(4, .int .i64 ((n * g.1 : Nat) : Int))]) (fun g => g.2) (fun g => g.1 ≤ m ∧ J true ((List.finRange m).take g.1) g.2) (fun g => m - g.1) ((0, L0))
    ⟨Nat.zero_le _, hJ⟩ ⟨Out.refl _ _, (List.forall_mem_cons.2 ⟨rfl, (fun _ h => nomatch h)⟩)⟩ (Sub.refl _) ?_
  rintro ⟨k, Z⟩ u ⟨hk, hj⟩
  dsimp only at hk hj
  refine TC.seq ?_
  refine TC.seq ?_
  refine TC.region ?_
  refine S.q rfl rfl (Qt.move (by conv => lhs; whnf)) ?_
  refine S.q rfl rfl (Qt.load rfl (Ld.one (Has.ro hB2) Tryd.one44 (rfl))) ?_
  refine S.q rfl rfl (Qt.len_slice Tryd.underlying44 rfl) ?_
  refine S.dec rfl rfl (Qt.lt rfl rfl) (fun h9 => ?_) (fun h9 => ?_)
  · refine S.nil ?_
    refine S.if_t rfl ?_
    refine TC.skip ?_
    refine TC.seq ?_
    refine TC.block ?_
    refine TC.seq ?_
    refine S.draw ([], []) Tryd.mixed (Sub.nil _) ?_
    have hkm : k < m := Nat.lt_of_mul_lt_mul_left (a := n) h9
    have hkn : n * k + n ≤ n * m := by rw [← Nat.mul_succ]; exact Nat.mul_le_mul_left _ hkm
    have hkn2 : n * (k, Z).fst + n ≤ n * m := hkn
    refine D.qX (k := 0) rfl (by kernel_rfl) (by kernel_rfl) (by kernel_rfl) rfl rfl (Qt.load rfl (Ld.one (Has.ro hB3) Tryd.one3 (rfl))) ?_
    refine D.qX (k := 1) rfl (by kernel_rfl) (by kernel_rfl) (by kernel_rfl) rfl rfl (Qt.load rfl (Ld.one (Has.ro hB2) Tryd.one44 (rfl))) ?_
    refine D.qX (k := 2) rfl (by kernel_rfl) (by kernel_rfl) (by kernel_rfl) rfl rfl (Qt.move (by conv => lhs; whnf)) ?_
    refine D.qX (k := 3) rfl (by kernel_rfl) (by kernel_rfl) (by kernel_rfl) rfl rfl (Qt.slice_lo Tryd.underlying44 Tryd.cells23 rfl rfl (by omega)) ?_
    refine D.qX (k := 4) rfl (by kernel_rfl) (by kernel_rfl) (by kernel_rfl) rfl rfl (Qt.len_slice Tryd.underlying44 rfl) ?_
    refine D.qX (k := 5) rfl (by kernel_rfl) (by kernel_rfl) (by kernel_rfl) rfl rfl (Qt.as (Qt.minN rfl rfl) (by rw [Nat.min_eq_left (show n ≤ n * m - n * k by omega)])) ?_
    refine D.qX (k := 6) rfl (by kernel_rfl) (by kernel_rfl) (by kernel_rfl) rfl rfl (Qt.assign (by conv => lhs; whnf)) ?_
    refine D.done (Sub.nil _) (by kernel_rfl) ?_
    refine TC.seq ?_
    refine TC.region ?_
    refine S.q rfl rfl (Qt.move (by conv => lhs; whnf)) ?_
    refine S.q rfl rfl (Qt.load rfl (Ld.one (Has.ro hB2) Tryd.one44 (rfl))) ?_
    refine S.q rfl rfl (Qt.move (by conv => lhs; whnf)) ?_
    refine S.q rfl rfl (Qt.move (by conv => lhs; whnf)) ?_
    refine S.q rfl rfl (Qt.move (by conv => lhs; whnf)) ?_
    refine S.q rfl rfl (Qt.add rfl rfl (by simp only [kmax]; omega)) ?_
    refine S.q rfl rfl (Qt.move (by conv => lhs; whnf)) ?_
    refine S.q rfl rfl (Qt.move (by conv => lhs; whnf)) ?_
    refine S.q rfl rfl (Qt.add rfl rfl (by simp only [kmax]; omega)) ?_
    refine S.q rfl rfl (Qt.as (v' := .slice (A.map (·.add (n * k * 32))) n n) (Qt.slice3 Tryd.underlying44 Tryd.cells23 rfl rfl rfl rfl (by omega) (by omega) (by omega)) (by rw [if_neg (by omega), show n * k + n - n * k = n by omega])) ?_
    refine S.opS rfl rfl (OpV.yield2 (L1 := []) (enc := (fun i : Fin m => [.slice (A.map (·.add (n * i.val * 32))) n n])) ⟨k, hkm⟩ (fun w' L' => hY _ _ w' L' ⟨k + 1, hkm, (finRange_take hkm).symm⟩) rfl rfl hj (fun Z2 hj2 => ?_) (fun Z2 hj2 => ?_))
    · rw [← finRange_take hkm] at hj2
      refine S.q rfl rfl (Qt.not_t rfl) ?_
      refine S.nil ?_
      refine S.if_f rfl ?_
      refine TC.skip ?_
      refine TC.region ?_
      refine S.q rfl rfl (Qt.move (by conv => lhs; whnf)) ?_
      refine S.q rfl rfl (Qt.load rfl (Ld.one (Has.ro hB3) Tryd.one3 (rfl))) ?_
      refine S.q rfl rfl (Qt.add rfl rfl (by simp only [kmax]; omega)) ?_
      refine S.q rfl rfl (Qt.assign (by conv => lhs; whnf)) ?_
      refine S.nil ?_
      refine ⟨(k + 1, Z2), ?_, ?_, ⟨?_, (List.forall_mem_cons.2 ⟨rfl, (fun _ h => nomatch h)⟩)⟩, Sub.refl _⟩
      · exact ⟨by show _ ≤ _; dsimp only; omega, hj2⟩
      · show _ < _; dsimp only; omega
      repeat (first | exact Out.refl _ _ | refine Out.put rfl ?_ | refine Out.puts rfl ?_ | refine Out.scr ?_ | refine Out.scr' rfl ?_)
    · refine S.q rfl rfl (Qt.not_f rfl) ?_
      refine S.nil ?_
      refine S.if_t rfl ?_
      refine TC.ret ?_
      refine finQ.ret RVs.nil (Sub.refl _) ?_
      exact .inr ⟨_, trivial, hj2⟩
  · refine S.nil ?_
    refine S.if_f rfl ?_
    refine TC.exit ?_
    refine finQ.normal RVs.nil (Sub.refl _) ?_
    have hkm : m ≤ k := Nat.le_of_mul_le_mul_left (Nat.le_of_not_lt h9) hn
    obtain rfl : k = m := by omega
    rw [finRange_all] at hj
    exact .inl ⟨_, rfl, hj⟩
theorem chunkh_gen (A : Option Addr) (m c n : Nat) (hn : 1 ≤ n) (hc : n * m ≤ c) (hc2 : c ≤ 9223372036854775807) (b2 b3 : Nat) (w : World) (L0 : List Assn) (h0 : Sat w L0) (hB2 : Ro w (fps L0) (Blk b2 44 [.slice A (n * m) c])) (hB3 : Ro w (fps L0) (Blk b3 3 [.int .i64 (n : Int)])) :
    Gen2 Tryd.prog 156 #[.pointer (some ⟨b2, 0, none⟩), .pointer (some ⟨b3, 0, none⟩)] (fun i : Fin m => [.slice (A.map (·.add (n * i.val * 32))) n n]) (fun xs => xs = List.finRange m) (fun _ => True) (fun ys : List (Fin m) => ∃ j, j ≤ m ∧ ys = (List.finRange m).take j) w L0 := fun l J hJ hY =>
  chunkh1_walk A m c n hn hc hc2 b2 b3 l J w L0 h0 hJ hB2 hB3 hY

set_option maxHeartbeats 1600000 in
theorem joined_walk (lv : Nat) (h1 : 1 ≤ lv) (h2 : lv ≤ 32) (A : Option Addr) (m c : Nat) (xs : List H32) (hm : xs.length = 2 * m) (hc : 2 * m ≤ c) (hcm : c ≤ 9223372036854775807) (hb : m ≤ 65536) (w0 : World) (hR : Ro w0 [] (SlA A (hcs xs))) (hT : Tabs 2 0 w0 []) :
    Calls Tryd.prog 115 #[.int .i64 (lv : Int), .slice A (2 * m) c] w0 (Post w0 [] fun v L => ∃ O d, v = .tuple #[.slice O m d, .nilIface] ∧ L = [OwnA 23 32 O m d (hcs ((List.finRange m).map (fun i : Fin m => pairF lv xs i.val)))]) := by
  refine Calls.of (L := []) (n := 32) (rs := [.cell 4 44, .cell 5 27]) Tryd.func115 rfl rfl rfl (Nat.le_of_ble_eq_true rfl) (Sat.nil _) ?_
  refine TC.ownNil 23 32 ?_
  refine TC.seq ?_
  refine TC.region ?_
  refine S.opS rfl rfl (OpV.box (v := .int .i64 (lv : Int)) rfl (fun b2 => ?_))
  refine S.opS rfl rfl (OpV.alloc Tryd.zero44 (fun b4 => ?_))
  refine S.opS rfl rfl (OpV.alloc Tryd.zero27 (fun b5 => ?_))
  refine S.nil ?_
  refine TC.seq ?_
  refine TC.region ?_
  refine S.opS rfl rfl (OpV.alloc Tryd.zero44 (fun b6 => ?_))
  refine S.nil ?_
  refine TC.seq ?_
  refine TC.seq ?_
  refine TC.region ?_
  refine S.q rfl rfl (Qt.move (by conv => lhs; whnf)) ?_
  refine S.opS rfl rfl (OpV.con (Pre := []) (R := _) Tryd.ent138 rfl (List.Perm.refl _) (fun w hw => chunkh_walk A (2 * m) c 2 (by decide) w) ?_)
  rintro v L' ⟨c2, c3, rfl, rfl⟩
  refine S.nil ?_
  refine TC.block ?_
  refine TC.rangeFunc2 (α := Fin m) (fun i : Fin m => [Value.slice (A.map (·.add (2 * i.val * 32))) 2 2]) (fun ys => ys = List.finRange m) (fun _ => True) (fun ys : List (Fin m) => ∃ j, j ≤ m ∧ ys = (List.finRange m).take j) (fun pre L' => ∃ O d, L' = [Blk b6 44 [.slice O pre.length d], OwnA 23 32 O pre.length d (hcs (pre.map (fun i : Fin m => pairF lv xs i.val)))]) (fun _ _ _ => False) (L0 := [Blk b6 44 [.slice none ([] : List (Fin m)).length 0], OwnA 23 32 none ([] : List (Fin m)).length 0 (hcs (([] : List (Fin m)).map (fun i : Fin m => pairF lv xs i.val)))]) rfl rfl Tryd.ent156 rfl (fun _ => rfl) ((List.perm_middle (l₁ := [_, _])).trans (List.Perm.cons _ (List.perm_middle (l₁ := [_, _, _, _, _])))) ⟨none, 0, rfl⟩ (fun w L' hw => chunkh_gen A m c 2 (by decide) hc hcm c2 c3 w L' hw.sat.left (Ro.of_rest hw (.tail _ (.head _))) (Ro.of_rest hw (.head _))) ?_ ?_ (fun _ _ _ _ _ h => h.elim)
  · rintro w' l Dd Rr Rb pre x L' hPf ⟨O, d, rfl⟩ hst
    have hpl : pre.length + 1 ≤ m := by obtain ⟨j, hj, e⟩ := hPf; have q := congrArg List.length e; rw [len_snoc, List.length_take, List.length_finRange] at q; omega
    have hP : Ro w' (fps (Rr :: dfA Dd :: [Blk b6 44 [.slice O pre.length d], OwnA 23 32 O pre.length d (hcs (pre.map (fun i : Fin m => pairF lv xs i.val)))])) (SlA (A.map (·.add (2 * x.val * 32))) (hcs [xs.getD (2 * x.val) zeroH, xs.getD (2 * x.val + 1) zeroH])) := by
      rw [← pair_part hm x.isLt]; exact (Ro.of_pre hst hR).part _ _
    have hLv : Ro w' (fps (Rr :: dfA Dd :: [Blk b6 44 [.slice O pre.length d], OwnA 23 32 O pre.length d (hcs (pre.map (fun i : Fin m => pairF lv xs i.val)))])) (Blk b2 3 [.int .i64 (lv : Int)]) := Ro.of_rest hst (List.mem_of_getElem? (i := 4) rfl)
    have hT2 := Tabs.pre hT hst
    refine TC.region ?_
    refine S.q rfl rfl (Qt.assign (by conv => lhs; whnf)) ?_
    refine S.nil ?_
    refine ⟨_, Sub.refl _, ?_⟩
    refine TC.block ?_
    refine TC.seq ?_
    refine S.draw ([12], [11]) Tryd.mixed (Sub.nil _) ?_
    refine D.qX (k := 0) rfl (by kernel_rfl) (by kernel_rfl) (by kernel_rfl) rfl rfl (Qt.load rfl (Ld.one (v := .int .i64 (lv : Int)) (Has.ro hLv) Tryd.one3 rfl)) ?_
    refine D.qX (k := 1) rfl (by kernel_rfl) (by kernel_rfl) (by kernel_rfl) rfl rfl (Qt.move (by conv => lhs; whnf)) ?_
    refine D.qX (k := 2) rfl (by kernel_rfl) (by kernel_rfl) (by kernel_rfl) rfl rfl (Qt.index (i := 0) Tryd.underlying44 Tryd.cells23 rfl rfl (by decide) (Has.ro hP) (by rw [hcs_length]; show 0 * 32 < 2 * 32; decide)) ?_
    refine D.qX (k := 3) rfl (by kernel_rfl) (by kernel_rfl) (by kernel_rfl) rfl rfl (Qt.load rfl (Ld.hashS (l := [xs.getD (2 * x.val) zeroH, xs.getD (2 * x.val + 1) zeroH]) (Has.ro hP) 0 Tryd.row23 Tryd.cells23 (show 0 < 2 by decide) rfl)) ?_
    refine D.qX (k := 4) rfl (by kernel_rfl) (by kernel_rfl) (by kernel_rfl) rfl rfl (Qt.move (by conv => lhs; whnf)) ?_
    refine D.qX (k := 5) rfl (by kernel_rfl) (by kernel_rfl) (by kernel_rfl) rfl rfl (Qt.index (i := 1) Tryd.underlying44 Tryd.cells23 rfl rfl (by decide) (Has.ro hP) (by rw [hcs_length]; show 1 * 32 < 2 * 32; decide)) ?_
    refine D.qX (k := 6) rfl (by kernel_rfl) (by kernel_rfl) (by kernel_rfl) rfl rfl (Qt.load rfl (Ld.hashS (l := [xs.getD (2 * x.val) zeroH, xs.getD (2 * x.val + 1) zeroH]) (Has.ro hP) 1 Tryd.row23 Tryd.cells23 (show 1 < 2 by decide) rfl)) ?_
    refine D.cX (k := 7) rfl (by kernel_rfl) (by kernel_rfl) (by kernel_rfl) rfl rfl (CalU.con0 Tryd.ent31 rfl (fun w hw => join_R lv h1 h2 (xs.getD (2 * x.val) zeroH) (xs.getD (2 * x.val + 1) zeroH) w (hT2.at hw))) ?_
    refine D.qX (k := 8) rfl (by kernel_rfl) (by kernel_rfl) (by kernel_rfl) rfl rfl (Qt.move (by conv => lhs; whnf)) ?_
    refine D.qX (k := 9) rfl (by kernel_rfl) (by kernel_rfl) (by kernel_rfl) rfl rfl (Qt.extract rfl rfl) ?_
    refine D.q (k := 10) rfl (by kernel_rfl) (by kernel_rfl) rfl rfl (Qt.extract rfl rfl) ?_
    refine D.nS (k := 11) (Sub.nil _) rfl (by kernel_rfl) (by kernel_rfl) rfl rfl (OpV.alloc Tryd.zero23 (fun b8 => ⟨Sub.drop _ (Sub.refl _), ?_⟩))
    refine D.opN (k := 12) (Sub.nil _) rfl (by kernel_rfl) (by kernel_rfl) rfl (OpV.storeV0 (v := hv (pairF lv xs x.val)) rfl rfl (hv_size Tryd.cells23) (hv_all _) (hv_len _) ⟨Sub.nil _, ?_⟩)
    refine D.qX (k := 13) rfl (by kernel_rfl) (by kernel_rfl) (by kernel_rfl) rfl rfl (Qt.assign (by conv => lhs; whnf)) ?_
    refine D.done (Sub.nil _) (by kernel_rfl) ?_
    refine TC.seq ?_
    refine TC.seq ?_
    refine TC.region ?_
    refine S.q rfl rfl (Qt.move (by conv => lhs; whnf)) ?_
    refine S.q rfl rfl (Qt.nenil_nil Tryd.underlying27 rfl) ?_
    refine S.nil ?_
    refine S.if_f rfl ?_
    refine TC.skip ?_
    refine TC.region ?_
    refine S.q rfl rfl (Qt.load rfl (Ld.one (v := .slice O pre.length d) (Has.at 3 rfl) Tryd.one44 rfl)) ?_
    refine S.q rfl rfl (Qt.load rfl (Ld.hash1 (x := pairF lv xs x.val) (Has.at 0 rfl) Tryd.row23 Tryd.cells23)) ?_
    refine S.opS rfl rfl (OpV.slice1 (bytes := 32) (v := hv (pairF lv xs x.val)) Tryd.underlying44 Tryd.elem23 (by decide) rfl (hv_len _) (fun g29 => ?_))
    refine S.opS rfl rfl (OpV.app5 (bytes := 32) (news := hvl (pairF lv xs x.val)) Tryd.underlying44 Tryd.elem23 rfl rfl (Has.blk (cs := hvl (pairF lv xs x.val)) (Has.at 0 rfl)) (by rw [hvl_length]) (bytesL_one _) (by simp only [maxLen]; omega) (by omega) (fun O' d' => ?_))
    refine S.opN rfl (OpV.storeV4 rfl (by conv => lhs; whnf) (by exact Tryd.cells44) (by rfl) (by rfl) ?_)
    refine S.nil ?_
    refine ⟨_, Sub.trans (Sub.keep _ (Sub.keep _ (Sub.keep _ (Sub.keep _ (Sub.drop _ (Sub.drop _ (Sub.nil []))))))) (Sub.trans (Sub.keep _ (Sub.trans (Sub.keep _ (Sub.trans (Sub.keep _ (Sub.trans (Sub.keep _ (Sub.refl _)) (Sub.of_perm (List.perm_middle (l₁ := [_, _]))))) (Sub.of_perm (List.perm_middle (l₁ := [_, _]))))) (Sub.of_perm (List.perm_middle (l₁ := [_, _]))))) (Sub.of_perm (List.perm_middle (l₁ := [_, _])))), O', d', ?_⟩
    simp only [len_snoc, List.map_append, hcs_append, List.map_cons, List.map_nil, hcs_cons, hcs_nil, List.append_nil]
    rfl
  · rintro Dd ys L' rfl ⟨O, d, rfl⟩
    refine TC.seq ?_
    refine TC.region ?_
    refine S.q rfl rfl (Qt.load rfl (Ld.one (v := .slice O (List.finRange m).length d) (Has.at 1 rfl) Tryd.one44 rfl)) ?_
    refine S.opN rfl (OpV.storeV6 rfl (by conv => lhs; whnf) (by exact Tryd.cells44) (by rfl) (by rfl) ?_)
    refine S.opN rfl (OpV.storeV5 rfl (by conv => lhs; whnf) (by exact Tryd.cells27) (by rfl) (by rfl) ?_)
    refine S.nil ?_
    refine TC.ret ?_
    refine finQ.retM rfl (Sub.refl _) (RVs.cell rfl (Ld.one (Has.at 5 rfl) Tryd.one44 (rfl)) (RVs.cell rfl (Ld.one (Has.at 4 rfl) Tryd.one27 (rfl)) RVs.nil)) (Sub.trans (Sub.keep _ (Sub.drop _ (Sub.drop _ (Sub.drop _ (Sub.drop _ (Sub.drop _ (Sub.drop _ (Sub.nil [])))))))) (Sub.trans (Sub.keep _ (Sub.refl _)) (Sub.of_perm (List.perm_middle (l₁ := [_]))))) ?_
    rw [List.length_finRange]
    exact ⟨O, d, rfl, rfl⟩
end Go.Proofs.YtlneklemjfefpaaDoor
