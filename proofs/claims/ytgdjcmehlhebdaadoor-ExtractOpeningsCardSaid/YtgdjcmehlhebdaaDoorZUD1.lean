/-
  Walks: the document's spots. Printed by a program of ours.
-/
import Derived.Test.YtgdjcmehlhebdaaDoorZ4
namespace Go.Proofs.YtgdjcmehlhebdaaDoor
open Go.E
set_option linter.unusedVariables false
set_option maxRecDepth 4000

theorem cutN_hit {xs : List Nat} {l p k : Nat} (hk : k < xs.length) (h : xs.getD k 0 / 2 ^ l = p) : cutN xs l p ≠ [] := fun e => by
  have : xs.getD k 0 ∈ cutN xs l p := List.mem_filter.2 ⟨getD_mem 0 hk, by simpa using h⟩
  rw [e] at this; cases this
theorem cutN_miss {xs : List Nat} {l p : Nat} (h : ∀ j, j < xs.length → xs.getD j 0 / 2 ^ l ≠ p) : cutN xs l p = [] := cutN_none fun x hx => by
  obtain ⟨j, hj, rfl⟩ := List.mem_iff_getElem.1 hx
  have := h j hj
  rwa [show xs.getD j 0 = xs[j] by simp [List.getD, hj]] at this
def SpotC (height : Nat) (A : Option Addr) (c : Nat) (xs : List Nat) (l : Nat) : Prop := ∀ (p : Nat) (w0 : World), okAt height (l, p) → Ro w0 [] (SlA A (u64s xs)) →
  Calls Tryd.prog 56 #[.slice A xs.length c, .int .i64 (l : Int), .int .u64 (p : Int)] w0 (Post w0 [] fun v L => ∃ O d, v = .slice O (rspots l xs p).length d ∧ L = [OwnA 164 2 O (rspots l xs p).length d (sdL (rspots l xs p))])
set_option maxHeartbeats 400000 in
theorem below_walk (height l p : Nat) (hh : height ≤ 32) (ho : okAt height (l, p)) (A : Option Addr) (c : Nat) (xs : List Nat) (hn : xs.length ≤ 256) (w0 : World) (hlow : ∀ x ∈ xs, x < 18446744073709551616) (hR : Ro w0 [] (SlA A (u64s xs))) :
    Calls Tryd.prog 77 #[.slice A xs.length c, .int .i64 (l : Int), .int .u64 (p : Int)] w0 (Post w0 [] fun v L => v = .bool (decide (cutN xs l p ≠ [])) ∧ L = []) := by
  refine Calls.of (L := []) (n := 23) (rs := [.tmp 6]) Tryd.func77 rfl rfl rfl (Nat.le_of_ble_eq_true rfl) (Sat.nil _) ?_
  obtain ⟨hl32, hp32⟩ := okAt_lt hh ho
  refine TC.seq ?_
  refine TC.region ?_
  refine S.q rfl rfl (Qt.assign (by conv => lhs; whnf)) ?_
  refine S.nil ?_
  refine TC.seq ?_
  refine TC.seq ?_
  refine TC.region ?_
  refine S.q rfl rfl (Qt.assign (by conv => lhs; whnf)) ?_
  refine S.nil ?_
  refine TC.block ?_
  refine TC.loop (γ := Nat) [8, 9, 10, 11, 14, 15, 16, 17, 18, 19, 20, 21, 22, 6, 12, 13, 7] (fun k => [(7, .int .i64 (k : Int))]) (fun _ => _) (fun k => k ≤ xs.length ∧ ∀ j, j < k → xs.getD j 0 / 2 ^ l ≠ p) (fun k => xs.length - k) (0)
    ⟨Nat.zero_le _, fun j h => absurd h (Nat.not_lt_zero _)⟩ ⟨Out.refl _ _, (List.forall_mem_cons.2 ⟨rfl, (fun _ h => nomatch h)⟩)⟩ (Sub.refl _) ?_
  rintro k u ⟨hk, hq⟩
  refine TC.seq ?_
  refine TC.seq ?_
  refine TC.region ?_
  refine S.q rfl rfl (Qt.move (by conv => lhs; whnf)) ?_
  refine S.q rfl rfl (Qt.move (by conv => lhs; whnf)) ?_
  refine S.q rfl rfl (Qt.len_slice Tryd.underlying42 rfl) ?_
  refine S.dec rfl rfl (Qt.lt rfl rfl) (fun h11 => ?_) (fun h11 => ?_)
  · refine S.nil ?_
    refine S.if_t rfl ?_
    refine TC.skip ?_
    refine TC.seq ?_
    refine TC.block ?_
    refine TC.seq ?_
    refine TC.region ?_
    refine S.q rfl rfl (Qt.move (by conv => lhs; whnf)) ?_
    refine S.q rfl rfl (Qt.move (by conv => lhs; whnf)) ?_
    refine S.q rfl rfl (Qt.index Tryd.underlying42 Tryd.cells22 rfl rfl (by omega) (Has.ro hR) (by rw [u64s_len]; omega)) ?_
    refine S.q rfl rfl (Qt.load rfl (Ld.sl (v := .int .u64 ((xs.getD (k) 0 : Nat) : Int)) (Has.ro hR) Tryd.one22 (u64s_get1 (by omega)))) ?_
    refine S.q rfl rfl (Qt.move (by conv => lhs; whnf)) ?_
    refine S.q rfl rfl (Qt.convert Tryd.underlying3 Tryd.underlying122 rfl (by simp only [kmax]; omega)) ?_
    refine S.q rfl rfl (Qt.shrN rfl rfl (by have := hlow _ (getD_mem (k := k) 0 h11); simp only [kmax]; omega)) ?_
    refine S.q rfl rfl (Qt.move (by conv => lhs; whnf)) ?_
    refine S.dec rfl rfl (Qt.eq rfl rfl) (fun h22 => ?_) (fun h22 => ?_)
    · refine S.nil ?_
      refine S.if_t rfl ?_
      refine TC.seq ?_
      refine TC.region ?_
      refine S.q rfl rfl (Qt.assign (by conv => lhs; whnf)) ?_
      refine S.nil ?_
      refine TC.ret ?_
      refine finQ.ret (RVs.tmp (by conv => lhs; whnf) RVs.nil) (Sub.nil _) ?_
      exact ⟨(congrArg Value.bool (decide_eq_true (cutN_hit h11 h22))).symm, rfl⟩
    · refine S.nil ?_
      refine S.if_f rfl ?_
      refine TC.skip ?_
      refine TC.region ?_
      refine S.q rfl rfl (Qt.move (by conv => lhs; whnf)) ?_
      refine S.q rfl rfl (Qt.add (b := 1) rfl rfl (by simp only [kmax]; omega)) ?_
      refine S.q rfl rfl (Qt.assign (by conv => lhs; whnf)) ?_
      refine S.nil ?_
      refine ⟨k + 1, ?_, ?_, ⟨?_, (List.forall_mem_cons.2 ⟨rfl, (fun _ h => nomatch h)⟩)⟩, Sub.refl _⟩
      · exact ⟨by show _ ≤ _; omega, fun j hj => (Nat.lt_or_ge j k).elim (hq j) (fun h => by (obtain rfl : j = k := by omega); exact h22)⟩
      · show _ < _; dsimp only; omega
      repeat (first | exact Out.refl _ _ | refine Out.put rfl ?_ | refine Out.puts rfl ?_ | refine Out.scr ?_ | refine Out.scr' rfl ?_)
  · refine S.nil ?_
    refine S.if_f rfl ?_
    refine TC.exit ?_
    refine TC.seq ?_
    refine TC.region ?_
    refine S.q rfl rfl (Qt.assign (by conv => lhs; whnf)) ?_
    refine S.nil ?_
    refine TC.ret ?_
    refine finQ.ret (RVs.tmp (by conv => lhs; whnf) RVs.nil) (Sub.nil _) ?_
    exact ⟨(congrArg Value.bool (decide_eq_false (fun h => h (cutN_miss (fun j hj => hq j (by omega)))))).symm, rfl⟩
theorem below_R (height l p : Nat) (hh : height ≤ 32) (ho : okAt height (l, p)) (A : Option Addr) (c : Nat) (xs : List Nat) (hn : xs.length ≤ 256) (w0 : World) (hlow : ∀ x ∈ xs, x < 18446744073709551616) (hR : Ro w0 [] (SlA A (u64s xs))) : Calls Tryd.prog 77 #[.slice A xs.length c, .int .i64 (l : Int), .int .u64 (p : Int)] w0 (Ret w0 (.bool (decide (cutN xs l p ≠ [])))) := Calls.ret (below_walk height l p hh ho A c xs hn w0 hlow hR)
theorem below_T (height l p : Nat) (hh : height ≤ 32) (ho : okAt height (l, p)) (A : Option Addr) (c : Nat) (xs : List Nat) (hn : xs.length ≤ 256) (he : cutN xs l p ≠ []) (w0 : World) (hlow : ∀ x ∈ xs, x < 18446744073709551616) (hR : Ro w0 [] (SlA A (u64s xs))) : Calls Tryd.prog 77 #[.slice A xs.length c, .int .i64 (l : Int), .int .u64 (p : Int)] w0 (Ret w0 (.bool true)) := by
  have h := below_R height l p hh ho A c xs hn w0 hlow hR
  rwa [decide_eq_true he] at h
theorem below_F (height l p : Nat) (hh : height ≤ 32) (ho : okAt height (l, p)) (A : Option Addr) (c : Nat) (xs : List Nat) (hn : xs.length ≤ 256) (he : cutN xs l p = []) (w0 : World) (hlow : ∀ x ∈ xs, x < 18446744073709551616) (hR : Ro w0 [] (SlA A (u64s xs))) : Calls Tryd.prog 77 #[.slice A xs.length c, .int .i64 (l : Int), .int .u64 (p : Int)] w0 (Ret w0 (.bool false)) := by
  have h := below_R height l p hh ho A c xs hn w0 hlow hR
  rwa [decide_eq_false (fun h => h he)] at h

set_option maxHeartbeats 400000 in
theorem spot_walkE (height : Nat) (hh : height ≤ 32) (A : Option Addr) (c : Nat) (xs : List Nat) (hn : xs.length ≤ 256) (hlow : ∀ x ∈ xs, x < 18446744073709551616) (l p : Nat) (w0 : World) (ho : okAt height (l, p)) (hR : Ro w0 [] (SlA A (u64s xs))) (he : cutN xs l p = []) :
    Calls Tryd.prog 56 #[.slice A xs.length c, .int .i64 ((l : Nat) : Int), .int .u64 (p : Int)] w0 (Post w0 [] fun v L => ∃ O d, v = .slice O (rspots (l) xs p).length d ∧ L = [OwnA 164 2 O (rspots (l) xs p).length d (sdL (rspots (l) xs p))]) := by
  refine Calls.of (L := []) (n := 32) (rs := [.tmp 6]) Tryd.func56 rfl rfl rfl (Nat.le_of_ble_eq_true rfl) (Sat.nil _) ?_
  refine TC.seq ?_
  refine TC.region ?_
  refine S.q rfl rfl (Qt.assign (by conv => lhs; whnf)) ?_
  refine S.nil ?_
  refine TC.seq ?_
  refine TC.seq ?_
  refine TC.region ?_
  refine S.q rfl rfl (Qt.move (by conv => lhs; whnf)) ?_
  refine S.q rfl rfl (Qt.move (by conv => lhs; whnf)) ?_
  refine S.q rfl rfl (Qt.move (by conv => lhs; whnf)) ?_
  refine S.opS rfl rfl (OpV.con0 Tryd.ent77 rfl (fun w hw => below_F height (l) p hh ho A c xs hn he w hlow (Rd.ro hR w hw)) ?_)
  refine S.q rfl rfl (Qt.not_f rfl) ?_
  refine S.nil ?_
  refine S.if_t rfl ?_
  refine TC.seq ?_
  refine TC.region ?_
  refine S.q rfl rfl (Qt.move (by conv => lhs; whnf)) ?_
  refine S.q rfl rfl (Qt.move (by conv => lhs; whnf)) ?_
  refine S.q rfl rfl (Qt.as (Qt.buildS (vs := [.int .i64 (l : Int), .int .u64 (p : Int)]) (pls := #[(0, 1), (1, 1)]) Tryd.underlying164 (fun w => by kernel_rfl) Tryd.zero164 rfl ⟨rfl, rfl, trivial⟩ rfl) (show _ = Value.agg #[.int .i64 (l : Int), .int .u64 (p : Int)] from rfl)) ?_
  refine S.opS rfl rfl (OpV.sliceLO (vs := [.agg #[.int .i64 (l : Int), .int .u64 (p : Int)]]) Tryd.underlying124 Tryd.elem164 rfl (by decide) rfl (by intro v hv; rw [List.mem_singleton.1 hv]; rfl) (fun g15 => ?_))
  refine S.q rfl rfl (Qt.assign (by conv => lhs; whnf)) ?_
  refine S.nil ?_
  refine TC.ret ?_
  refine finQ.ret (RVs.tmp (by conv => lhs; whnf) RVs.nil) (Sub.refl _) ?_
  exact ⟨some ⟨g15, 0, none⟩, 1, by rw [rspots_nil he]; rfl, by rw [rspots_nil he]; rfl⟩
set_option maxHeartbeats 400000 in
theorem spot_walk0 (height : Nat) (hh : height ≤ 32) (A : Option Addr) (c : Nat) (xs : List Nat) (hn : xs.length ≤ 256) (hlow : ∀ x ∈ xs, x < 18446744073709551616) (p : Nat) (w0 : World) (ho : okAt height (0, p)) (hR : Ro w0 [] (SlA A (u64s xs))) (he : cutN xs 0 p ≠ []) :
    Calls Tryd.prog 56 #[.slice A xs.length c, .int .i64 ((0 : Nat) : Int), .int .u64 (p : Int)] w0 (Post w0 [] fun v L => ∃ O d, v = .slice O (rspots (0) xs p).length d ∧ L = [OwnA 164 2 O (rspots (0) xs p).length d (sdL (rspots (0) xs p))]) := by
  refine Calls.of (L := []) (n := 32) (rs := [.tmp 6]) Tryd.func56 rfl rfl rfl (Nat.le_of_ble_eq_true rfl) (Sat.nil _) ?_
  refine TC.ownNil 164 2 ?_
  refine TC.seq ?_
  refine TC.region ?_
  refine S.q rfl rfl (Qt.assign (by conv => lhs; whnf)) ?_
  refine S.nil ?_
  refine TC.seq ?_
  refine TC.seq ?_
  refine TC.region ?_
  refine S.q rfl rfl (Qt.move (by conv => lhs; whnf)) ?_
  refine S.q rfl rfl (Qt.move (by conv => lhs; whnf)) ?_
  refine S.q rfl rfl (Qt.move (by conv => lhs; whnf)) ?_
  refine S.opS rfl rfl (OpV.con0 Tryd.ent77 rfl (fun w hw => below_T height (0) p hh ho A c xs hn he w hlow (Rd.ro hR w hw)) ?_)
  refine S.q rfl rfl (Qt.not_t rfl) ?_
  refine S.nil ?_
  refine S.if_f rfl ?_
  refine TC.skip ?_
  refine TC.seq ?_
  refine TC.seq ?_
  refine TC.region ?_
  refine S.q rfl rfl (Qt.move (by conv => lhs; whnf)) ?_
  refine S.q rfl rfl (Qt.dT (Qt.eq (b := 0) rfl rfl) (rfl)) ?_
  refine S.nil ?_
  refine S.if_t rfl ?_
  refine TC.seq ?_
  refine TC.region ?_
  refine S.q rfl rfl (Qt.assign (by conv => lhs; whnf)) ?_
  refine S.nil ?_
  refine TC.ret ?_
  refine finQ.ret (RVs.tmp (by conv => lhs; whnf) RVs.nil) (Sub.refl _) ?_
  exact ⟨none, 0, by rw [rspots_zero he]; rfl, by rw [rspots_zero he]; rfl⟩
set_option maxHeartbeats 400000 in
theorem spot_walkS (height : Nat) (hh : height ≤ 32) (A : Option Addr) (c : Nat) (xs : List Nat) (hn : xs.length ≤ 256) (hlow : ∀ x ∈ xs, x < 18446744073709551616) (l p : Nat) (w0 : World) (ho : okAt height (l + 1, p)) (hR : Ro w0 [] (SlA A (u64s xs))) (he : cutN xs (l + 1) p ≠ []) (hrec : SpotC height A c xs l) :
    Calls Tryd.prog 56 #[.slice A xs.length c, .int .i64 ((l + 1 : Nat) : Int), .int .u64 (p : Int)] w0 (Post w0 [] fun v L => ∃ O d, v = .slice O (rspots (l + 1) xs p).length d ∧ L = [OwnA 164 2 O (rspots (l + 1) xs p).length d (sdL (rspots (l + 1) xs p))]) := by
  refine Calls.of (L := []) (n := 32) (rs := [.tmp 6]) Tryd.func56 rfl rfl rfl (Nat.le_of_ble_eq_true rfl) (Sat.nil _) ?_
  obtain ⟨hl32, hp32⟩ := okAt_lt hh ho
  obtain ⟨okl, okr⟩ := okAt_kids ho
  have hb : ∀ q, (rspots l xs q).length ≤ 8193 := fun q => by have h1 := rspots_len l xs q; have h2 : xs.length * l ≤ 256 * 32 := Nat.mul_le_mul hn (by omega); omega
  have hb1 := hb (2 * p)
  have hb2 := hb (2 * p + 1)
  refine TC.seq ?_
  refine TC.region ?_
  refine S.q rfl rfl (Qt.assign (by conv => lhs; whnf)) ?_
  refine S.nil ?_
  refine TC.seq ?_
  refine TC.seq ?_
  refine TC.region ?_
  refine S.q rfl rfl (Qt.move (by conv => lhs; whnf)) ?_
  refine S.q rfl rfl (Qt.move (by conv => lhs; whnf)) ?_
  refine S.q rfl rfl (Qt.move (by conv => lhs; whnf)) ?_
  refine S.opS rfl rfl (OpV.con0 Tryd.ent77 rfl (fun w hw => below_T height (l + 1) p hh ho A c xs hn he w hlow (Rd.ro hR w hw)) ?_)
  refine S.q rfl rfl (Qt.not_t rfl) ?_
  refine S.nil ?_
  refine S.if_f rfl ?_
  refine TC.skip ?_
  refine TC.seq ?_
  refine TC.seq ?_
  refine TC.region ?_
  refine S.q rfl rfl (Qt.move (by conv => lhs; whnf)) ?_
  refine S.q rfl rfl (Qt.dF (Qt.eq (b := 0) rfl rfl) (by omega)) ?_
  refine S.nil ?_
  refine S.if_f rfl ?_
  refine TC.skip ?_
  refine TC.seq ?_
  refine TC.region ?_
  refine S.q rfl rfl (Qt.move (by conv => lhs; whnf)) ?_
  refine S.q rfl rfl (Qt.move (by conv => lhs; whnf)) ?_
  refine S.q rfl rfl (Qt.as (Qt.sub (a := l + 1) (b := 1) rfl rfl (by omega) (by simp only [kmax]; omega)) (by rw [Nat.add_sub_cancel])) ?_
  refine S.q rfl rfl (Qt.move (by conv => lhs; whnf)) ?_
  refine S.q rfl rfl (Qt.mul (a := 2) rfl rfl (by simp only [kmax]; omega)) ?_
  refine S.opS rfl rfl (OpV.con (Pre := []) (R := _) Tryd.ent56 rfl (List.Perm.refl _) (fun w hw => hrec (2 * p) w okl (Rd.ro hR w hw)) ?_)
  rintro v L' ⟨O1, d1, rfl, rfl⟩
  refine S.q rfl rfl (Qt.move (by conv => lhs; whnf)) ?_
  refine S.q rfl rfl (Qt.move (by conv => lhs; whnf)) ?_
  refine S.q rfl rfl (Qt.as (Qt.sub (a := l + 1) (b := 1) rfl rfl (by omega) (by simp only [kmax]; omega)) (by rw [Nat.add_sub_cancel])) ?_
  refine S.q rfl rfl (Qt.move (by conv => lhs; whnf)) ?_
  refine S.q rfl rfl (Qt.mul (a := 2) rfl rfl (by simp only [kmax]; omega)) ?_
  refine S.q rfl rfl (Qt.add (b := 1) rfl rfl (by simp only [kmax]; omega)) ?_
  refine S.opS rfl rfl (OpV.con (Pre := []) (R := _) Tryd.ent56 rfl (List.Perm.refl _) (fun w hw => hrec (2 * p + 1) w okr (Rd.ro hR w hw)) ?_)
  rintro v L' ⟨O2, d2, rfl, rfl⟩
  refine S.opS rfl rfl (OpV.app1 (bytes := 16) (news := sdL (rspots l xs (2 * p + 1))) Tryd.underlying124 Tryd.elem164 rfl rfl (Has.own (Has.at 0 rfl)) (sdL_len _) (sdL_one _) (by simp only [maxLen]; omega) (by omega) (fun O3 d3 => ?_))
  refine S.q rfl rfl (Qt.assign (by conv => lhs; whnf)) ?_
  refine S.nil ?_
  refine TC.ret ?_
  refine finQ.ret (RVs.tmp (by conv => lhs; whnf) RVs.nil) (Sub.trans (Sub.keep _ (Sub.drop _ (Sub.nil []))) (Sub.trans (Sub.keep _ (Sub.refl _)) (Sub.of_perm (List.perm_middle (l₁ := [_]))))) ?_
  exact ⟨O3, d3, by rw [rspots_succ he, List.length_append]; rfl, by rw [rspots_succ he, List.length_append, sdL_app]⟩
theorem spot_C (height : Nat) (hh : height ≤ 32) (A : Option Addr) (c : Nat) (xs : List Nat) (hn : xs.length ≤ 256) (hlow : ∀ x ∈ xs, x < 18446744073709551616) : ∀ l, SpotC height A c xs l
  | 0 => fun p w0 ho hR => by
    by_cases he : cutN xs 0 p = []
    · exact spot_walkE height hh A c xs hn hlow 0 p w0 ho hR he
    · exact spot_walk0 height hh A c xs hn hlow p w0 ho hR he
  | l + 1 => fun p w0 ho hR => by
    by_cases he : cutN xs (l + 1) p = []
    · exact spot_walkE height hh A c xs hn hlow (l + 1) p w0 ho hR he
    · exact spot_walkS height hh A c xs hn hlow l p w0 ho hR he (spot_C height hh A c xs hn hlow l)

end Go.Proofs.YtgdjcmehlhebdaaDoor
