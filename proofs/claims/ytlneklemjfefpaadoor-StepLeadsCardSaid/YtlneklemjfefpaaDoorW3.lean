/-
  Walks: the numbers of a slice, collected and sorted. Printed by a program of ours. Walks: a sorted slice without its doubles. Printed by a program of ours.
-/
import Derived.Test.YtlneklemjfefpaaDoorW2
import Derived.Test.YtlneklemjfefpaaDoorE3
import Derived.Test.YtlneklemjfefpaaDoorP3
namespace Go.Proofs.YtlneklemjfefpaaDoor
open Go.E
set_option linter.unusedVariables false
set_option maxRecDepth 4000
theorem Tryd.ent140 : Enters Tryd.prog 140 := ⟨_, Tryd.func140, by kernel_rfl, rfl⟩
theorem Tryd.ent141 : Enters Tryd.prog 141 := ⟨_, Tryd.func141, by kernel_rfl, rfl⟩
theorem Tryd.ent142 : Enters Tryd.prog 142 := ⟨_, Tryd.func142, by kernel_rfl, rfl⟩
theorem Tryd.ent159 : Enters Tryd.prog 159 := ⟨_, Tryd.func159, by kernel_rfl, rfl⟩
theorem map_fin {n : Nat} {xs : List Nat} (h : xs.length = n) : (List.finRange n).map (fun i : Fin n => xs.getD i.val 0) = xs := by
  subst h
  apply List.ext_getElem (by simp)
  intro i h1 h2
  simp [List.getD, h2]
set_option maxHeartbeats 400000 in
theorem vals_walk (A : Option Addr) (n c : Nat) (w0 : World) :
    Calls Tryd.prog 124 #[.slice A n c] w0 (Post w0 [] fun v L => ∃ b1, v = .func (.func 142) #[] #[.pointer (some ⟨b1, 0, none⟩)] ∧ L = [Blk b1 71 [.slice A n c]]) := by
  refine Calls.of (L := []) (n := 4) (rs := [.tmp 2]) Tryd.func124 rfl rfl rfl (Nat.le_of_ble_eq_true rfl) (Sat.nil _) ?_
  refine TC.seq ?_
  refine TC.region ?_
  refine S.opS rfl rfl (OpV.box (by conv => lhs; whnf) (fun b1 => ?_))
  refine S.q rfl rfl (Qt.assign (by conv => lhs; whnf)) ?_
  refine S.nil ?_
  refine TC.seq ?_
  refine TC.region ?_
  refine S.q rfl rfl (Qt.makeFuncL (fs := []) (cs := [.pointer (some ⟨b1, 0, none⟩)]) rfl rfl) ?_
  refine S.q rfl rfl (Qt.assign (by conv => lhs; whnf)) ?_
  refine S.nil ?_
  refine TC.ret ?_
  refine finQ.ret (RVs.tmp (by conv => lhs; whnf) RVs.nil) (Sub.refl _) ?_
  exact ⟨_, rfl, rfl⟩
set_option maxHeartbeats 400000 in
theorem vals1_walk (A : Option Addr) (n c : Nat) (xs : List Nat) (hxn : xs.length = n) (hm : n ≤ 4294967296) (b1 l : Nat) (J : Bool → List (Fin n) → List Assn → Prop) (w0 : World) (L0 : List Assn) (h0 : Sat w0 L0) (hJ : J true [] L0) (hB : Ro w0 (fps L0) (Blk b1 71 [.slice A n c])) (hR : Ro w0 (fps L0) (SlA A (u64s xs)))
    (hY : ∀ pre x w' L', (fun ys : List (Fin n) => ∃ j, j ≤ n ∧ ys = (List.finRange n).take j) (pre ++ [x]) → J true pre L' → St w0 (fps L0) L' w' → YieldAt Fence.wide 0 Tryd.prog l ((fun i : Fin n => [Value.int .u64 ((xs.getD i.val 0 : Nat) : Int)]) x).toArray w' fun e w'' => ∃ L'', St w' (fps L') L'' w'' ∧ ((e = .returned (.bool true) ∧ J true (pre ++ [x]) L'') ∨ (e = .returned (.bool false) ∧ J false (pre ++ [x]) L''))) :
    Calls Tryd.prog 142 #[.func (.yield l) #[] #[], .pointer (some ⟨b1, 0, none⟩)] w0 (Post w0 (fps L0) fun v L => (∃ ys, ys = List.finRange n ∧ J true ys L) ∨ (∃ pre, True ∧ J false pre L)) := by
  refine Calls.of (L := L0) (n := 16) (rs := []) Tryd.func142 rfl rfl rfl (Nat.le_of_ble_eq_true rfl) (h0) ?_
  refine TC.seq ?_
  refine TC.region ?_
  refine S.q rfl rfl (Qt.load rfl (Ld.one (Has.ro hB) Tryd.one71 (rfl))) ?_
  refine S.q rfl rfl (Qt.len_slice Tryd.underlying71 rfl) ?_
  refine S.q rfl rfl (Qt.move (by conv => lhs; whnf)) ?_
  refine S.nil ?_
  refine TC.block ?_
  refine TC.loop (γ := Nat × List Assn) [8, 9, 10, 4, 11, 12, 13, 14, 15, 7] (fun g => [(7, .int .i64 ((g.1 : Nat) : Int))]) (fun g => g.2) (fun g => g.1 ≤ n ∧ J true ((List.finRange n).take g.1) g.2) (fun g => n - g.1) ((0, L0))
    ⟨Nat.zero_le _, hJ⟩ ⟨Out.refl _ _, (List.forall_mem_cons.2 ⟨rfl, (fun _ h => nomatch h)⟩)⟩ (Sub.refl _) ?_
  rintro ⟨k, Z⟩ u ⟨hk, hj⟩
  dsimp only at hk hj
  show TC _ _ _ (puts [(7, .int .i64 ((k : Nat) : Int))] (scr _ u _)) Z
  refine TC.seq ?_
  refine TC.region ?_
  refine S.dec rfl rfl (Qt.lt rfl rfl) (fun h8 => ?_) (fun h8 => ?_)
  · refine S.nil ?_
    refine TC.seq ?_
    refine S.if_t rfl ?_
    refine TC.skip ?_
    refine TC.seq ?_
    refine TC.block ?_
    refine TC.seq ?_
    refine TC.region ?_
    have hkm : k < n := h8
    refine S.q rfl rfl (Qt.index Tryd.underlying71 Tryd.cells24 rfl rfl (by omega) (Has.ro hR) (by rw [u64s_len]; omega)) ?_
    refine S.q rfl rfl (Qt.load rfl (Ld.sl (Has.ro hR) Tryd.one24 (u64s_get1 (by omega)))) ?_
    refine S.q rfl rfl (Qt.assign (by conv => lhs; whnf)) ?_
    refine S.nil ?_
    refine TC.seq ?_
    refine TC.region ?_
    refine S.q rfl rfl (Qt.move (by conv => lhs; whnf)) ?_
    refine S.q rfl rfl (Qt.move (by conv => lhs; whnf)) ?_
    refine S.opS rfl rfl (OpV.yield2 (L1 := []) (enc := (fun i : Fin n => [Value.int .u64 ((xs.getD i.val 0 : Nat) : Int)])) ⟨k, hkm⟩ (fun w' L' => hY _ _ w' L' ⟨k + 1, hkm, (finRange_take hkm).symm⟩) rfl rfl hj (fun Z2 hj2 => ?_) (fun Z2 hj2 => ?_))
    · rw [← finRange_take hkm] at hj2
      refine S.q rfl rfl (Qt.not_t rfl) ?_
      refine S.nil ?_
      refine S.if_f rfl ?_
      refine TC.skip ?_
      refine TC.region ?_
      refine S.q rfl rfl (Qt.add (b := 1) rfl rfl (by simp only [kmax]; omega)) ?_
      refine S.q rfl rfl (Qt.move (by conv => lhs; whnf)) ?_
      refine S.nil ?_
      refine ⟨(k + 1, Z2), ?_, ?_, ⟨?_, (List.forall_mem_cons.2 ⟨rfl, (fun _ h => nomatch h)⟩)⟩, Sub.refl _⟩
      · exact ⟨by show _ ≤ _; dsimp only; omega, hj2⟩
      · show _ < _; dsimp only; omega
      repeat (first | exact Out.refl _ _ | refine Out.put rfl ?_ | refine Out.puts rfl ?_ | refine Out.scr ?_ | refine Out.scr' rfl ?_)
    · refine S.q rfl rfl (Qt.not_f rfl) ?_
      refine S.nil ?_
      refine S.if_t rfl ?_
      refine TC.ret ?_
      refine finQ.ret RVs.nil (Sub.refl _) ?_
      exact .inr ⟨_, trivial, hj2⟩
  · refine S.nil ?_
    refine TC.seq ?_
    refine S.if_f rfl ?_
    refine TC.exit ?_
    refine finQ.normal RVs.nil (Sub.refl _) ?_
    obtain rfl : k = n := by omega
    rw [finRange_all] at hj
    exact .inl ⟨_, rfl, hj⟩
theorem vals_gen (A : Option Addr) (n c : Nat) (xs : List Nat) (hxn : xs.length = n) (hm : n ≤ 4294967296) (b1 : Nat) (w : World) (L0 : List Assn) (h0 : Sat w L0) (hB : Ro w (fps L0) (Blk b1 71 [.slice A n c])) (hR : Ro w (fps L0) (SlA A (u64s xs))) :
    Gen2 Tryd.prog 142 #[.pointer (some ⟨b1, 0, none⟩)] (fun i : Fin n => [Value.int .u64 ((xs.getD i.val 0 : Nat) : Int)]) (fun ys => ys = List.finRange n) (fun _ => True) (fun ys : List (Fin n) => ∃ j, j ≤ n ∧ ys = (List.finRange n).take j) w L0 := fun l J hJ hY =>
  vals1_walk A n c xs hxn hm b1 l J w L0 h0 hJ hB hR hY

set_option maxHeartbeats 1600000 in
theorem aseq_walk (A : Option Addr) (n c : Nat) (xs : List Nat) (hxn : xs.length = n) (hm : n ≤ 4294967296) (b1 : Nat) (w0 : World) (hB : Ro w0 [] (Blk b1 71 [.slice A n c])) (hR : Ro w0 [] (SlA A (u64s xs))) :
    Calls Tryd.prog 159 #[.slice none 0 0, .func (.func 142) #[] #[.pointer (some ⟨b1, 0, none⟩)]] w0 (Post w0 [] fun v L => ∃ O d, v = .slice O n d ∧ L = [OwnA 24 1 O n d (u64s xs)]) := by
  refine Calls.of (L := []) (n := 13) (rs := [.tmp 4]) Tryd.func159 rfl rfl rfl (Nat.le_of_ble_eq_true rfl) (Sat.nil _) ?_
  refine TC.ownNil 24 1 ?_
  refine TC.seq ?_
  refine TC.region ?_
  refine S.opS rfl rfl (OpV.box (v := .slice none 0 0) rfl (fun b2 => ?_))
  refine S.q rfl rfl (Qt.assign (by conv => lhs; whnf)) ?_
  refine S.nil ?_
  refine TC.seq ?_
  refine TC.seq ?_
  refine TC.region ?_
  refine S.q rfl rfl (Qt.move (by conv => lhs; whnf)) ?_
  refine S.nil ?_
  refine TC.block ?_
  refine TC.rangeFunc2 (α := Fin n) (fun i : Fin n => [Value.int .u64 ((xs.getD i.val 0 : Nat) : Int)]) (fun ys => ys = List.finRange n) (fun _ => True) (fun ys : List (Fin n) => ∃ j, j ≤ n ∧ ys = (List.finRange n).take j) (fun pre L' => ∃ O d, L' = [Blk b2 71 [.slice O pre.length d], OwnA 24 1 O pre.length d (u64s (pre.map (fun i : Fin n => xs.getD i.val 0)))]) (fun _ _ _ => False) (L0 := [Blk b2 71 [.slice none ([] : List (Fin n)).length 0], OwnA 24 1 none ([] : List (Fin n)).length 0 (u64s (([] : List (Fin n)).map (fun i : Fin n => xs.getD i.val 0)))]) (R := []) rfl rfl Tryd.ent142 rfl (fun _ => rfl) (perm_app _) ⟨none, 0, rfl⟩ (fun w L' hw => vals_gen A n c xs hxn hm b1 w L' hw.sat.left (Ro.of_pre hw hB) (Ro.of_pre hw hR)) ?_ ?_ (fun _ _ _ _ _ h => h.elim)
  · rintro w' l Dd Rr Rb pre x L' hPf ⟨O, d, rfl⟩ hst
    have hpl : pre.length + 1 ≤ n := by obtain ⟨j, hj, e⟩ := hPf; have q := congrArg List.length e; rw [len_snoc, List.length_take, List.length_finRange] at q; omega
    refine TC.region ?_
    refine S.q rfl rfl (Qt.assign (by conv => lhs; whnf)) ?_
    refine S.nil ?_
    refine ⟨_, Sub.refl _, ?_⟩
    refine TC.block ?_
    refine TC.region ?_
    refine S.q rfl rfl (Qt.load rfl (Ld.one (v := .slice O pre.length d) (Has.at 2 rfl) Tryd.one71 rfl)) ?_
    refine S.q rfl rfl (Qt.move (by conv => lhs; whnf)) ?_
    refine S.opS rfl rfl (OpV.slice1 (bytes := 8) (v := .int .u64 (((xs.getD x.val 0) : Nat) : Int)) Tryd.underlying71 Tryd.elem24 (by decide) rfl rfl (fun g10 => ?_))
    refine S.opS rfl rfl (OpV.app4 (bytes := 8) (news := [.int .u64 (((xs.getD x.val 0) : Nat) : Int)]) Tryd.underlying71 Tryd.elem24 rfl rfl (Has.blk (Has.at 0 rfl)) rfl (by intro u hu; rw [List.mem_singleton.1 hu]; rfl) (by simp only [maxLen]; omega) (by omega) (fun O' d' => ?_))
    refine S.opN rfl (OpV.storeV3 rfl (by conv => lhs; whnf) (by exact Tryd.cells71) (by rfl) (by rfl) ?_)
    refine S.nil ?_
    refine ⟨_, Sub.trans (Sub.keep _ (Sub.keep _ (Sub.keep _ (Sub.keep _ (Sub.drop _ (Sub.nil [])))))) (Sub.trans (Sub.keep _ (Sub.trans (Sub.keep _ (Sub.trans (Sub.keep _ (Sub.trans (Sub.keep _ (Sub.refl _)) (Sub.of_perm (List.perm_middle (l₁ := [_]))))) (Sub.of_perm (List.perm_middle (l₁ := [_]))))) (Sub.of_perm (List.perm_middle (l₁ := [_]))))) (Sub.of_perm (List.perm_middle (l₁ := [_])))), O', d', ?_⟩
    simp only [len_snoc, u64s, List.map_append, List.map_cons, List.map_nil] <;> rfl
  · rintro Dd ys L' rfl ⟨O, d, rfl⟩
    refine TC.seq ?_
    refine TC.region ?_
    refine S.q rfl rfl (Qt.load rfl (Ld.one (v := .slice O (List.finRange n).length d) (Has.at 1 rfl) Tryd.one71 rfl)) ?_
    refine S.q rfl rfl (Qt.assign (by conv => lhs; whnf)) ?_
    refine S.nil ?_
    refine TC.ret ?_
    refine finQ.retM rfl (Sub.refl _) (RVs.tmp (by conv => lhs; whnf) RVs.nil) (Sub.trans (Sub.keep _ (Sub.drop _ (Sub.nil []))) (Sub.trans (Sub.keep _ (Sub.refl _)) (Sub.of_perm (List.perm_middle (l₁ := [_]))))) ?_
    rw [List.length_finRange, map_fin hxn]
    exact ⟨O, d, rfl, rfl⟩
set_option maxHeartbeats 400000 in
theorem coll_walk (A : Option Addr) (n c : Nat) (xs : List Nat) (hxn : xs.length = n) (hm : n ≤ 4294967296) (b1 : Nat) (w0 : World) (hB : Ro w0 [] (Blk b1 71 [.slice A n c])) (hR : Ro w0 [] (SlA A (u64s xs))) :
    Calls Tryd.prog 141 #[.func (.func 142) #[] #[.pointer (some ⟨b1, 0, none⟩)]] w0 (Post w0 [] fun v L => ∃ O d, v = .slice O n d ∧ L = [OwnA 24 1 O n d (u64s xs)]) := by
  refine Calls.of (L := []) (n := 5) (rs := [.tmp 2]) Tryd.func141 rfl rfl rfl (Nat.le_of_ble_eq_true rfl) (Sat.nil _) ?_
  refine TC.seq ?_
  refine TC.region ?_
  refine S.q rfl rfl (Qt.assign (by conv => lhs; whnf)) ?_
  refine S.nil ?_
  refine TC.seq ?_
  refine TC.region ?_
  refine S.q rfl rfl (Qt.move (by conv => lhs; whnf)) ?_
  refine S.opS rfl rfl (OpV.con (Pre := []) (R := _) Tryd.ent159 rfl (List.Perm.refl _) (fun w hw => aseq_walk A n c xs hxn hm b1 w (Ro.of_pre (Pre := []) (R := []) hw hB) (Ro.of_pre (Pre := []) (R := []) hw hR)) ?_)
  rintro v L' ⟨O, d, rfl, rfl⟩
  refine S.q rfl rfl (Qt.assign (by conv => lhs; whnf)) ?_
  refine S.nil ?_
  refine TC.ret ?_
  refine finQ.ret (RVs.tmp (by conv => lhs; whnf) RVs.nil) (Sub.refl _) ?_
  exact ⟨O, d, rfl, rfl⟩
set_option maxHeartbeats 400000 in
theorem sorted_walk (A : Option Addr) (n c : Nat) (xs : List Nat) (hxn : xs.length = n) (hm : n ≤ 4294967296) (hm2 : n < 4294967296) (b1 : Nat) (w0 : World) (hB : Ro w0 [] (Blk b1 71 [.slice A n c])) (hR : Ro w0 [] (SlA A (u64s xs))) :
    Calls Tryd.prog 123 #[.func (.func 142) #[] #[.pointer (some ⟨b1, 0, none⟩)]] w0 (Post w0 [] fun v L => ∃ O d, v = .slice O n d ∧ L = [OwnA 24 1 O n d (u64s (srt xs))]) := by
  refine Calls.of (L := []) (n := 9) (rs := [.tmp 2]) Tryd.func123 rfl rfl rfl (Nat.le_of_ble_eq_true rfl) (Sat.nil _) ?_
  refine TC.seq ?_
  refine TC.region ?_
  refine S.q rfl rfl (Qt.assign (by conv => lhs; whnf)) ?_
  refine S.nil ?_
  refine TC.seq ?_
  refine TC.region ?_
  refine S.q rfl rfl (Qt.move (by conv => lhs; whnf)) ?_
  refine S.opS rfl rfl (OpV.con (Pre := []) (R := _) Tryd.ent141 rfl (List.Perm.refl _) (fun w hw => coll_walk A n c xs hxn hm b1 w (Ro.of_pre (Pre := []) (R := []) hw hB) (Ro.of_pre (Pre := []) (R := []) hw hR)) ?_)
  rintro v L' ⟨O, d, rfl, rfl⟩
  refine S.q rfl rfl (Qt.assign (by conv => lhs; whnf)) ?_
  refine S.nil ?_
  refine TC.seq ?_
  refine TC.region ?_
  refine S.q rfl rfl (Qt.move (by conv => lhs; whnf)) ?_
  refine S.opS rfl rfl (OpV.con (Pre := [OwnA 24 1 O n d (u64s xs)]) (R := _) Tryd.ent140 rfl (List.Perm.refl _) (fun w hw => sort_own O n d xs hm2 w hw.sat.left) ?_)
  rintro v L' ⟨rfl, rfl⟩
  refine S.nil ?_
  refine TC.seq ?_
  refine TC.region ?_
  refine S.q rfl rfl (Qt.move (by conv => lhs; whnf)) ?_
  refine S.q rfl rfl (Qt.assign (by conv => lhs; whnf)) ?_
  refine S.nil ?_
  refine TC.ret ?_
  refine finQ.ret (RVs.tmp (by conv => lhs; whnf) RVs.nil) (Sub.refl _) ?_
  exact ⟨O, d, rfl, rfl⟩
end Go.Proofs.YtlneklemjfefpaaDoor
namespace Go.Proofs.YtlneklemjfefpaaDoor
open Go.E
set_option linter.unusedVariables false
set_option maxRecDepth 4000
theorem Tryd.ent122 : Enters Tryd.prog 122 := ⟨_, Tryd.func122, by kernel_rfl, rfl⟩
theorem Tryd.ent123 : Enters Tryd.prog 123 := ⟨_, Tryd.func123, by kernel_rfl, rfl⟩
theorem Tryd.ent124 : Enters Tryd.prog 124 := ⟨_, Tryd.func124, by kernel_rfl, rfl⟩
theorem Tryd.zero24v : zero1 Tryd.prog 24 = some (.int .u64 0) := by kernel_rfl
theorem ga (xs : List Nat) (i : Nat) : xs.toArray[i]! = xs.getD i 0 := by
  simp only [List.getD, getElem!_def, List.getElem?_toArray]
  cases xs[i]? <;> rfl
theorem blkD_drop_get {e : Array Nat} {r : List Value} {k j : Nat} (h : k + j < e.size) : ((blkD e r).drop (k * 1))[j * 1]? = some (.int .u64 ((e[k + j]! : Nat) : Int)) := by
  rw [List.getElem?_drop, ← Nat.add_mul]; exact blkD_get h
theorem dd_small {xs : List Nat} (h : xs.length < 2) : dd xs = xs := by
  rw [dd, ddF_take (Nat.le_refl _) (fun i h1 h2 => by omega), List.take_length]
theorem comp_cells {xs : List Nat} {p : Nat} {e : Array Nat} {r R D : List Value} (hp : p ≤ e.size) (h : dd xs = e.toList.take p) : (List.take p (blkD e r) ++ R ++ D).take (p * 1) = u64s (dd xs) := by
  rw [h, Nat.mul_one, List.append_assoc, List.take_left' (by rw [List.length_take, blkD_len]; omega), blkD, List.take_append_of_le_length (by rw [u64s_len, Array.length_toList]; exact hp), u64s_take]
theorem comp_new {xs : List Nat} {n k j p : Nat} {e : Array Nat} (hj1 : 1 ≤ j) (hj : j < n - k) (hp : p < k + j) (he : e.size = n) (ht : e.toList.take p = ddF xs (k + j)) (hu : ∀ i, k + j - 1 ≤ i → i < n → e[i]! = xs.getD i 0) (hne : e[k + j]! ≠ e[k + j - 1]!) :
    1 ≤ j + 1 ∧ j + 1 ≤ n - k ∧ p + 1 < k + (j + 1) ∧ (e.setIfInBounds p e[k + j]!).size = n ∧ (e.setIfInBounds p e[k + j]!).toList.take (p + 1) = ddF xs (k + (j + 1)) ∧ ∀ i, k + (j + 1) - 1 ≤ i → i < n → (e.setIfInBounds p e[k + j]!)[i]! = xs.getD i 0 := by
  have h1 := hu (k + j) (by omega) (by omega)
  have h2 := hu (k + j - 1) (by omega) (by omega)
  refine ⟨by omega, by omega, by omega, by rw [Array.size_setIfInBounds, he], ?_, fun i hi hn => ?_⟩
  · rw [show k + (j + 1) = k + j + 1 by omega, ddF_new (.inr (by rw [← h1, ← h2]; exact hne)), ← ht, h1, Array.toList_setIfInBounds]
    have hpl : p < e.toList.length := by rw [Array.length_toList]; omega
    rw [List.take_succ_eq_append_getElem (by rw [List.length_set]; exact hpl), List.getElem_set_self, List.take_set_of_le (Nat.le_refl _)]
  · rw [← hu i (by omega) hn]
    simp only [getElem!_def, Array.getElem?_setIfInBounds, if_neg (show p ≠ i by omega)]
theorem comp_old {xs : List Nat} {n k j p : Nat} {e : Array Nat} (hj1 : 1 ≤ j) (hj : j < n - k) (hp : p < k + j) (he : e.size = n) (ht : e.toList.take p = ddF xs (k + j)) (hu : ∀ i, k + j - 1 ≤ i → i < n → e[i]! = xs.getD i 0) (heq : e[k + j]! = e[k + j - 1]!) :
    1 ≤ j + 1 ∧ j + 1 ≤ n - k ∧ p < k + (j + 1) ∧ e.size = n ∧ e.toList.take p = ddF xs (k + (j + 1)) ∧ ∀ i, k + (j + 1) - 1 ≤ i → i < n → e[i]! = xs.getD i 0 := by
  have h1 := hu (k + j) (by omega) (by omega)
  have h2 := hu (k + j - 1) (by omega) (by omega)
  exact ⟨by omega, by omega, by omega, he, by rw [ht, show k + (j + 1) = k + j + 1 by omega, ddF_old (by omega) (by rw [← h1, ← h2]; exact heq)], fun i hi hn => hu i (by omega) hn⟩
set_option maxHeartbeats 1600000 in
theorem compact_small (A : Option Addr) (n c : Nat) (xs : List Nat) (hxn : xs.length = n) (hm : n < 4294967296) (hs : n < 2) (w0 : World) (hL : Sat w0 [OwnA 24 1 A n c (u64s xs)]) :
    Calls Tryd.prog 122 #[.slice A n c] w0 (Post w0 (fps [OwnA 24 1 A n c (u64s xs)]) fun v L => v = .slice A (dd xs).length c ∧ L = [OwnA 24 1 A (dd xs).length c (u64s (dd xs))]) := by
  refine Calls.of (L := [OwnA 24 1 A n c (u64s xs)]) (n := 61) (rs := [.tmp 2]) Tryd.func122 rfl rfl rfl (Nat.le_of_ble_eq_true rfl) (hL) ?_
  refine TC.seq ?_
  refine TC.region ?_
  refine S.q rfl rfl (Qt.assign (by conv => lhs; whnf)) ?_
  refine S.nil ?_
  refine TC.seq ?_
  refine TC.seq ?_
  refine TC.region ?_
  refine S.q rfl rfl (Qt.move (by conv => lhs; whnf)) ?_
  refine S.q rfl rfl (Qt.len_slice Tryd.underlying71 rfl) ?_
  refine S.q rfl rfl (Qt.dT (Qt.lt (b := 2) rfl rfl) (by omega)) ?_
  refine S.nil ?_
  refine S.if_t rfl ?_
  refine TC.seq ?_
  refine TC.region ?_
  refine S.q rfl rfl (Qt.move (by conv => lhs; whnf)) ?_
  refine S.q rfl rfl (Qt.assign (by conv => lhs; whnf)) ?_
  refine S.nil ?_
  refine TC.ret ?_
  refine finQ.ret (RVs.tmp (by conv => lhs; whnf) RVs.nil) (Sub.refl _) ?_
  rw [dd_small (by omega), hxn]
  exact ⟨rfl, rfl⟩
set_option maxHeartbeats 1600000 in
theorem compact_big (A : Option Addr) (n c : Nat) (xs : List Nat) (hxn : xs.length = n) (hm : n < 4294967296) (hs : 2 ≤ n) (w0 : World) (hL : Sat w0 [OwnA 24 1 A n c (u64s xs)]) :
    Calls Tryd.prog 122 #[.slice A n c] w0 (Post w0 (fps [OwnA 24 1 A n c (u64s xs)]) fun v L => v = .slice A (dd xs).length c ∧ L = [OwnA 24 1 A (dd xs).length c (u64s (dd xs))]) := by
  refine Calls.of (L := [OwnA 24 1 A n c (u64s xs)]) (n := 61) (rs := [.tmp 2]) Tryd.func122 rfl rfl rfl (Nat.le_of_ble_eq_true rfl) (hL) ?_
  refine TC.openOwn (fun hA hz hc0 hx0 => absurd hz (by omega)) (fun g cs hO hct hcl hnc hcm => ?_)
  subst hO
  have hcs := blkD_of hct
  generalize hr : cs.drop (n * 1) = r at hcs
  subst hcs
  have hsz : xs.toArray.size = n := hxn
  have hrl : n + r.length = c := by rw [blkD_len, hsz] at hcl; omega
  refine TC.seq ?_
  refine TC.region ?_
  refine S.q rfl rfl (Qt.assign (by conv => lhs; whnf)) ?_
  refine S.nil ?_
  refine TC.seq ?_
  refine TC.seq ?_
  refine TC.region ?_
  refine S.q rfl rfl (Qt.move (by conv => lhs; whnf)) ?_
  refine S.q rfl rfl (Qt.len_slice Tryd.underlying71 rfl) ?_
  refine S.q rfl rfl (Qt.dF (Qt.lt (b := 2) rfl rfl) (by omega)) ?_
  refine S.nil ?_
  refine S.if_f rfl ?_
  refine TC.skip ?_
  refine TC.seq ?_
  refine TC.seq ?_
  refine TC.region ?_
  refine S.q rfl rfl (Qt.assign (by conv => lhs; whnf)) ?_
  refine S.nil ?_
  refine TC.block ?_
  refine TC.loop (γ := Nat) [10, 11, 12, 13, 16, 17, 18, 19, 20, 21, 22, 23, 24, 25, 26, 27, 28, 4, 5, 29, 30, 31, 32, 35, 36, 37, 38, 39, 40, 41, 42, 43, 44, 45, 46, 47, 48, 49, 50, 51, 52, 53, 3, 33, 34, 54, 55, 56, 57, 58, 59, 2, 14, 15] (fun k => [(3, .int .i64 ((k : Nat) : Int))]) (fun _ => _) (fun k => 1 ≤ k ∧ k ≤ n ∧ ∀ i, 0 < i → i < k → xs.getD i 0 ≠ xs.getD (i - 1) 0) (fun k => n - k) (1)
    ⟨Nat.le_refl _, by omega, fun i h1 h2 => by omega⟩ ⟨Out.refl _ _, (List.forall_mem_cons.2 ⟨rfl, (fun _ h => nomatch h)⟩)⟩ (Sub.refl _) ?_
  rintro k u ⟨hk1, hkn, hno⟩
  refine TC.seq ?_
  refine TC.seq ?_
  refine TC.region ?_
  refine S.q rfl rfl (Qt.move (by conv => lhs; whnf)) ?_
  refine S.q rfl rfl (Qt.move (by conv => lhs; whnf)) ?_
  refine S.q rfl rfl (Qt.len_slice Tryd.underlying71 rfl) ?_
  refine S.dec rfl rfl (Qt.lt rfl rfl) (fun h13 => ?_) (fun h13 => ?_)
  · refine S.nil ?_
    refine S.if_t rfl ?_
    refine TC.skip ?_
    refine TC.seq ?_
    refine TC.block ?_
    refine TC.seq ?_
    refine S.draw ([], []) Tryd.mixed (Sub.nil _) ?_
    refine D.qX (k := 0) rfl (by kernel_rfl) (by kernel_rfl) (by kernel_rfl) rfl rfl (Qt.move (by conv => lhs; whnf)) ?_
    refine D.qX (k := 1) rfl (by kernel_rfl) (by kernel_rfl) (by kernel_rfl) rfl rfl (Qt.move (by conv => lhs; whnf)) ?_
    refine D.qX (k := 2) rfl (by kernel_rfl) (by kernel_rfl) (by kernel_rfl) rfl rfl (Qt.index Tryd.underlying71 Tryd.cells24 rfl rfl (by omega) (Has.blk (Has.at 0 rfl)) (by simp only [blkD_len]; omega)) ?_
    refine D.qX (k := 3) rfl (by kernel_rfl) (by kernel_rfl) (by kernel_rfl) rfl rfl (Qt.load rfl (Ld.sl (Has.blk (Has.at 0 rfl)) Tryd.one24 (blkD_get (by (try dsimp only); omega)))) ?_
    refine D.qX (k := 4) rfl (by kernel_rfl) (by kernel_rfl) (by kernel_rfl) rfl rfl (Qt.move (by conv => lhs; whnf)) ?_
    refine D.qX (k := 5) rfl (by kernel_rfl) (by kernel_rfl) (by kernel_rfl) rfl rfl (Qt.move (by conv => lhs; whnf)) ?_
    refine D.qX (k := 6) rfl (by kernel_rfl) (by kernel_rfl) (by kernel_rfl) rfl rfl (Qt.sub (b := 1) rfl rfl (by omega) (by simp only [kmax]; omega)) ?_
    refine D.qX (k := 7) rfl (by kernel_rfl) (by kernel_rfl) (by kernel_rfl) rfl rfl (Qt.index Tryd.underlying71 Tryd.cells24 rfl rfl (by omega) (Has.blk (Has.at 0 rfl)) (by simp only [blkD_len]; omega)) ?_
    refine D.qX (k := 8) rfl (by kernel_rfl) (by kernel_rfl) (by kernel_rfl) rfl rfl (Qt.load rfl (Ld.sl (Has.blk (Has.at 0 rfl)) Tryd.one24 (blkD_get (by (try dsimp only); omega)))) ?_
    refine D.decX (k := 9) rfl (by kernel_rfl) (by kernel_rfl) (by kernel_rfl) rfl rfl (Qt.eq rfl rfl) (fun h25 => ?_) (fun h25 => ?_)
    · refine D.done (Sub.nil _) (by kernel_rfl) ?_
      refine S.if_t rfl ?_
      refine TC.seq ?_
      refine TC.region ?_
      refine S.q rfl rfl (Qt.move (by conv => lhs; whnf)) ?_
      refine S.q rfl rfl (Qt.move (by conv => lhs; whnf)) ?_
      refine S.q rfl rfl (Qt.slice_lo Tryd.underlying71 Tryd.cells24 rfl rfl (by omega)) ?_
      refine S.q rfl rfl (Qt.assign (by conv => lhs; whnf)) ?_
      refine S.nil ?_
      refine TC.seq ?_
      refine TC.seq ?_
      refine TC.region ?_
      refine S.q rfl rfl (Qt.assign (by conv => lhs; whnf)) ?_
      refine S.nil ?_
      refine TC.block ?_
      refine TC.loop (γ := Nat × Nat × Array Nat) [29, 30, 31, 32, 35, 36, 37, 38, 39, 40, 41, 42, 43, 44, 45, 46, 47, 48, 49, 50, 51, 52, 53, 3, 33, 34, 5] (fun q => [(5, .int .i64 ((q.1 : Nat) : Int)), (3, .int .i64 ((q.2.1 : Nat) : Int))]) (fun q => [Blk g 24 (blkD q.2.2 r)]) (fun q => 1 ≤ q.1 ∧ q.1 ≤ n - k ∧ q.2.1 < k + q.1 ∧ q.2.2.size = n ∧ q.2.2.toList.take q.2.1 = ddF xs (k + q.1) ∧ ∀ i, k + q.1 - 1 ≤ i → i < n → q.2.2[i]! = xs.getD i 0) (fun q => n - k - q.1) ((1, k, xs.toArray))
        ⟨Nat.le_refl _, by dsimp only; omega, by dsimp only; omega, hsz, by dsimp only; rw [ddF_old (by omega) (by rw [ga, ga] at h25; exact h25), ddF_take (by omega) hno], fun i _ _ => ga xs i⟩ ⟨Out.refl _ _, (List.forall_mem_cons.2 ⟨rfl, (List.forall_mem_cons.2 ⟨rfl, (fun _ h => nomatch h)⟩)⟩)⟩ (Sub.refl _) ?_
      rintro ⟨j, p, e⟩ u ⟨hj1, hjn, hp, he, ht, hu⟩
      dsimp only at hj1 hjn hp he ht hu
      show TC _ _ _ (puts [(5, .int .i64 ((j : Nat) : Int)), (3, .int .i64 ((p : Nat) : Int))] (scr _ u _)) [Blk g 24 (blkD (e) r)]
      refine TC.seq ?_
      refine TC.seq ?_
      refine TC.region ?_
      refine S.q rfl rfl (Qt.move (by conv => lhs; whnf)) ?_
      refine S.q rfl rfl (Qt.move (by conv => lhs; whnf)) ?_
      refine S.q rfl rfl (Qt.len_slice Tryd.underlying71 rfl) ?_
      refine S.dec rfl rfl (Qt.lt rfl rfl) (fun h32 => ?_) (fun h32 => ?_)
      · refine S.nil ?_
        refine S.if_t rfl ?_
        refine TC.skip ?_
        refine TC.seq ?_
        refine TC.block ?_
        refine TC.seq ?_
        refine S.draw ([], []) Tryd.mixed (Sub.nil _) ?_
        refine D.qX (k := 0) rfl (by kernel_rfl) (by kernel_rfl) (by kernel_rfl) rfl rfl (Qt.move (by conv => lhs; whnf)) ?_
        refine D.qX (k := 1) rfl (by kernel_rfl) (by kernel_rfl) (by kernel_rfl) rfl rfl (Qt.move (by conv => lhs; whnf)) ?_
        refine D.qX (k := 2) rfl (by kernel_rfl) (by kernel_rfl) (by kernel_rfl) rfl rfl (Qt.index Tryd.underlying71 Tryd.cells24 rfl rfl (by omega) (Has.cut (l := k) (k := k * 1) (Has.blk (Has.at 0 rfl)) (fun q => absurd q (by omega))) (by rw [List.length_drop, blkD_len]; omega)) ?_
        refine D.qX (k := 3) rfl (by kernel_rfl) (by kernel_rfl) (by kernel_rfl) rfl rfl (Qt.load rfl (Ld.sl (Has.cut (l := k) (k := k * 1) (Has.blk (Has.at 0 rfl)) (fun q => absurd q (by omega))) Tryd.one24 (blkD_drop_get (by omega)))) ?_
        refine D.qX (k := 4) rfl (by kernel_rfl) (by kernel_rfl) (by kernel_rfl) rfl rfl (Qt.move (by conv => lhs; whnf)) ?_
        refine D.qX (k := 5) rfl (by kernel_rfl) (by kernel_rfl) (by kernel_rfl) rfl rfl (Qt.move (by conv => lhs; whnf)) ?_
        refine D.qX (k := 6) rfl (by kernel_rfl) (by kernel_rfl) (by kernel_rfl) rfl rfl (Qt.sub (b := 1) rfl rfl (by omega) (by simp only [kmax]; omega)) ?_
        refine D.qX (k := 7) rfl (by kernel_rfl) (by kernel_rfl) (by kernel_rfl) rfl rfl (Qt.index Tryd.underlying71 Tryd.cells24 rfl rfl (by omega) (Has.cut (l := k) (k := k * 1) (Has.blk (Has.at 0 rfl)) (fun q => absurd q (by omega))) (by rw [List.length_drop, blkD_len]; omega)) ?_
        refine D.qX (k := 8) rfl (by kernel_rfl) (by kernel_rfl) (by kernel_rfl) rfl rfl (Qt.load rfl (Ld.sl (Has.cut (l := k) (k := k * 1) (Has.blk (Has.at 0 rfl)) (fun q => absurd q (by omega))) Tryd.one24 (blkD_drop_get (by omega)))) ?_
        refine D.decX (k := 9) rfl (by kernel_rfl) (by kernel_rfl) (by kernel_rfl) rfl rfl (Qt.ne rfl rfl) (fun h44 => ?_) (fun h44 => ?_)
        · refine D.done (Sub.nil _) (by kernel_rfl) ?_
          refine S.if_t rfl ?_
          refine TC.seq ?_
          refine TC.region ?_
          refine S.q rfl rfl (Qt.move (by conv => lhs; whnf)) ?_
          refine S.q rfl rfl (Qt.move (by conv => lhs; whnf)) ?_
          refine S.q rfl rfl (Qt.move (by conv => lhs; whnf)) ?_
          refine S.q rfl rfl (Qt.move (by conv => lhs; whnf)) ?_
          refine S.q rfl rfl (Qt.index Tryd.underlying71 Tryd.cells24 rfl rfl (by omega) (Has.cut (l := k) (k := k * 1) (Has.blk (Has.at 0 rfl)) (fun q => absurd q (by omega))) (by rw [List.length_drop, blkD_len]; omega)) ?_
          refine S.q rfl rfl (Qt.load rfl (Ld.sl (Has.cut (l := k) (k := k * 1) (Has.blk (Has.at 0 rfl)) (fun q => absurd q (by omega))) Tryd.one24 (blkD_drop_get (by omega)))) ?_
          refine S.q rfl rfl (Qt.index1 Tryd.underlying71 Tryd.cells24 rfl rfl (by omega) (Has.blk (Has.at 0 rfl)) (by simp only [blkD_len]; omega)) ?_
          refine S.opN rfl (OpV.storeE0 rfl (by conv => lhs; whnf) Tryd.cells24 rfl rfl (by simp only [blkD_len, Array.size_setIfInBounds]; omega) (blkD_set (by omega)) ?_)
          refine S.nil ?_
          refine TC.region ?_
          refine S.q rfl rfl (Qt.move (by conv => lhs; whnf)) ?_
          refine S.q rfl rfl (Qt.add (b := 1) rfl rfl (by simp only [kmax]; omega)) ?_
          refine S.q rfl rfl (Qt.assign (by conv => lhs; whnf)) ?_
          refine S.nil ?_
          refine TC.region ?_
          refine S.q rfl rfl (Qt.move (by conv => lhs; whnf)) ?_
          refine S.q rfl rfl (Qt.add (b := 1) rfl rfl (by simp only [kmax]; omega)) ?_
          refine S.q rfl rfl (Qt.assign (by conv => lhs; whnf)) ?_
          refine S.nil ?_
          refine ⟨(j + 1, p + 1, e.setIfInBounds p e[k + j]!), ?_, ?_, ⟨?_, (List.forall_mem_cons.2 ⟨rfl, (List.forall_mem_cons.2 ⟨rfl, (fun _ h => nomatch h)⟩)⟩)⟩, Sub.refl _⟩
          · exact comp_new hj1 (by omega) hp he ht hu (by rw [show k + (j - 1) = k + j - 1 by omega] at h44; exact h44)
          · show _ < _; dsimp only; omega
          repeat (first | exact Out.refl _ _ | refine Out.put rfl ?_ | refine Out.puts rfl ?_ | refine Out.scr ?_ | refine Out.scr' rfl ?_)
        · refine D.done (Sub.nil _) (by kernel_rfl) ?_
          refine S.if_f rfl ?_
          refine TC.skip ?_
          refine TC.region ?_
          refine S.q rfl rfl (Qt.move (by conv => lhs; whnf)) ?_
          refine S.q rfl rfl (Qt.add (b := 1) rfl rfl (by simp only [kmax]; omega)) ?_
          refine S.q rfl rfl (Qt.assign (by conv => lhs; whnf)) ?_
          refine S.nil ?_
          refine ⟨(j + 1, p, e), ?_, ?_, ⟨?_, (List.forall_mem_cons.2 ⟨rfl, (List.forall_mem_cons.2 ⟨rfl, (fun _ h => nomatch h)⟩)⟩)⟩, Sub.refl _⟩
          · exact comp_old hj1 (by omega) hp he ht hu (Classical.byContradiction fun q => h44 (by rw [show k + (j - 1) = k + j - 1 by omega]; exact q))
          · show _ < _; dsimp only; omega
          repeat (first | exact Out.refl _ _ | refine Out.put rfl ?_ | refine Out.puts rfl ?_ | refine Out.scr ?_ | refine Out.scr' rfl ?_)
      · refine S.nil ?_
        refine S.if_f rfl ?_
        refine TC.exit ?_
        refine TC.seq ?_
        refine TC.region ?_
        refine S.q rfl rfl (Qt.move (by conv => lhs; whnf)) ?_
        refine S.q rfl rfl (Qt.move (by conv => lhs; whnf)) ?_
        refine S.q rfl rfl (Qt.as (v' := .slice (some ⟨g, p, none⟩) (n - p) (c - p)) (Qt.slice_lo Tryd.underlying71 Tryd.cells24 rfl rfl (by omega)) (by rw [if_neg (by omega)]; simp [add_cell])) ?_
        refine S.opN rfl (OpV.clear0 (z := .int .u64 0) Tryd.underlying71 Tryd.zero24v rfl rfl rfl (by rw [blkD_len]; omega) rfl ?_)
        refine S.nil ?_
        refine TC.seq ?_
        refine TC.region ?_
        have hkj : k + j = n := by omega
        have hdd : dd xs = e.toList.take p := by rw [ht, hkj, dd, hxn]
        have hpl : (dd xs).length = p := by rw [hdd, List.length_take, Array.length_toList]; omega
        refine TL.shutN (n := p) (c := c) (sz := 1) (by simp only [List.length_append, List.length_take, List.length_replicate, List.length_drop, blkD_len]; omega) (by omega) hcm (List.Perm.refl _) ?_
        rw [comp_cells (by omega) hdd]
        refine S.q rfl rfl (Qt.move (by conv => lhs; whnf)) ?_
        refine S.q rfl rfl (Qt.move (by conv => lhs; whnf)) ?_
        refine S.q rfl rfl (Qt.slice_hi Tryd.underlying71 Tryd.cells24 rfl rfl (by omega)) ?_
        refine S.q rfl rfl (Qt.assign (by conv => lhs; whnf)) ?_
        refine S.nil ?_
        refine TC.ret ?_
        refine finQ.ret (RVs.tmp (by conv => lhs; whnf) RVs.nil) (Sub.refl _) ?_
        rw [hpl]
        exact ⟨rfl, rfl⟩
    · refine D.done (Sub.nil _) (by kernel_rfl) ?_
      refine S.if_f rfl ?_
      refine TC.skip ?_
      refine TC.region ?_
      refine S.q rfl rfl (Qt.move (by conv => lhs; whnf)) ?_
      refine S.q rfl rfl (Qt.add (b := 1) rfl rfl (by simp only [kmax]; omega)) ?_
      refine S.q rfl rfl (Qt.assign (by conv => lhs; whnf)) ?_
      refine S.nil ?_
      refine ⟨k + 1, ?_, ?_, ⟨?_, (List.forall_mem_cons.2 ⟨rfl, (fun _ h => nomatch h)⟩)⟩, Sub.refl _⟩
      · exact ⟨by omega, by omega, fun i h1 h2 => by rcases Nat.lt_or_eq_of_le (Nat.le_of_lt_succ h2) with h | h; exact hno i h1 h; subst h; rw [ga, ga] at h25; exact h25⟩
      · show _ < _; dsimp only; omega
      repeat (first | exact Out.refl _ _ | refine Out.put rfl ?_ | refine Out.puts rfl ?_ | refine Out.scr ?_ | refine Out.scr' rfl ?_)
  · refine S.nil ?_
    refine S.if_f rfl ?_
    refine TC.exit ?_
    refine TC.seq ?_
    refine TC.region ?_
    refine TL.shutN (n := n) (sz := 1) hcl hnc hcm (List.Perm.refl _) ?_
    rw [hct]
    refine S.q rfl rfl (Qt.move (by conv => lhs; whnf)) ?_
    refine S.q rfl rfl (Qt.assign (by conv => lhs; whnf)) ?_
    refine S.nil ?_
    refine TC.ret ?_
    refine finQ.ret (RVs.tmp (by conv => lhs; whnf) RVs.nil) (Sub.refl _) ?_
    have hdd : dd xs = xs := by rw [dd, ddF_take (Nat.le_refl _) (fun i h1 h2 => hno i h1 (by omega)), List.take_length]
    rw [hdd, hxn]
    exact ⟨rfl, rfl⟩
theorem compact_walk (A : Option Addr) (n c : Nat) (xs : List Nat) (hxn : xs.length = n) (hm : n < 4294967296)  (w0 : World) (hL : Sat w0 [OwnA 24 1 A n c (u64s xs)]) : Calls Tryd.prog 122 #[.slice A n c] w0 (Post w0 (fps [OwnA 24 1 A n c (u64s xs)]) fun v L => v = .slice A (dd xs).length c ∧ L = [OwnA 24 1 A (dd xs).length c (u64s (dd xs))]) := by
  rcases Nat.lt_or_ge n 2 with h | h
  · exact compact_small A n c xs hxn hm h w0 hL
  · exact compact_big A n c xs hxn hm h w0 hL

set_option maxHeartbeats 400000 in
theorem psort_walk (A : Option Addr) (n c : Nat) (xs : List Nat) (hxn : xs.length = n) (hm : n < 4294967296) (w0 : World) (hR : Ro w0 [] (SlA A (u64s xs))) :
    Calls Tryd.prog 86 #[.slice A n c] w0 (Post w0 [] fun v L => ∃ O d, v = .slice O (dd (srt xs)).length d ∧ L = [OwnA 24 1 O (dd (srt xs)).length d (u64s (dd (srt xs)))]) := by
  refine Calls.of (L := []) (n := 7) (rs := [.tmp 2]) Tryd.func86 rfl rfl rfl (Nat.le_of_ble_eq_true rfl) (Sat.nil _) ?_
  refine TC.seq ?_
  refine TC.region ?_
  refine S.q rfl rfl (Qt.assign (by conv => lhs; whnf)) ?_
  refine S.nil ?_
  refine TC.seq ?_
  refine TC.region ?_
  refine S.q rfl rfl (Qt.move (by conv => lhs; whnf)) ?_
  refine S.opS rfl rfl (OpV.con (Pre := []) (R := _) Tryd.ent124 rfl (List.Perm.refl _) (fun w hw => vals_walk A n c w) ?_)
  rintro v L' ⟨b1, rfl, rfl⟩
  refine S.opS rfl rfl (OpV.con (Pre := []) (R := _) Tryd.ent123 rfl (List.Perm.refl _) (fun w hw => sorted_walk A n c xs hxn (by omega) hm b1 w (Ro.of_rest (Pre := []) hw (.head _)) (Ro.of_pre (Pre := []) hw hR)) ?_)
  rintro v L' ⟨O, d, rfl, rfl⟩
  refine S.opS rfl rfl (OpV.con (Pre := [OwnA 24 1 O n d (u64s (srt xs))]) (R := _) Tryd.ent122 rfl (List.Perm.refl _) (fun w hw => compact_walk O n d (srt xs) (by rw [srt, List.length_mergeSort]; exact hxn) hm w hw.sat.left) ?_)
  rintro v L' ⟨rfl, rfl⟩
  refine S.q rfl rfl (Qt.assign (by conv => lhs; whnf)) ?_
  refine S.nil ?_
  refine TC.ret ?_
  refine finQ.ret (RVs.tmp (by conv => lhs; whnf) RVs.nil) (Sub.keep _ (Sub.drop _ (Sub.nil []))) ?_
  exact ⟨O, d, rfl, rfl⟩
end Go.Proofs.YtlneklemjfefpaaDoor
