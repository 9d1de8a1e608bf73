/-
  Walks: a tree's steps. Printed by a program of ours.
-/
import Derived.Test.YtlneklemjfefpaaDoorUC
namespace Go.Proofs.YtlneklemjfefpaaDoor
open Go.E
set_option linter.unusedVariables false
set_option maxRecDepth 4000

theorem Tryd.elem182 : elemT Tryd.prog 182 2 16 := elemT_of (by kernel_rfl)
theorem cutN_hit {xs : List Nat} {l p k : Nat} (hk : k < xs.length) (h : xs.getD k 0 / 2 ^ l = p) : cutN xs l p ≠ [] := fun e => by
  have : xs.getD k 0 ∈ cutN xs l p := List.mem_filter.2 ⟨getD_mem 0 hk, by simpa using h⟩
  rw [e] at this; cases this
theorem cutN_miss {xs : List Nat} {l p : Nat} (h : ∀ j, j < xs.length → xs.getD j 0 / 2 ^ l ≠ p) : cutN xs l p = [] := cutN_none fun x hx => by
  obtain ⟨j, hj, rfl⟩ := List.mem_iff_getElem.1 hx
  have := h j hj
  rwa [show xs.getD j 0 = xs[j] by simp [List.getD, hj]] at this
theorem cut_one (x : H32) (A : Option Addr) (n c : Nat) : (vl (.agg (hvl x ++ [Value.slice A n c]).toArray)).all (·.oneCell') = true := by
  rw [vl_agg, List.all_append, Bool.and_eq_true]; exact ⟨hvl_one x, rfl⟩
theorem leaf_same {f : Nat → H32} {E : Nat → H32} {height : Nat} {ms : Tm} (ht : TreeOk E height f ms) {xs : List Nat} (h : ∀ x ∈ xs, x < 2 ^ height) : xs.map (fun x => getT E ms (0, x)) = xs.map (fun x => nodeH f 0 x) := List.map_congr_left fun x hx => ht.get (0, x) (ok0 (h x hx))
def SpotC (height : Nat) (A : Option Addr) (c : Nat) (xs : List Nat) (l : Nat) : Prop := ∀ (p : Nat) (w0 : World), okAt height (l, p) → Ro w0 [] (SlA A (u64s xs)) →
  Calls Tryd.prog 106 #[.slice A xs.length c, .int .i64 (l : Int), .int .u64 (p : Int)] w0 (Post w0 [] fun v L => ∃ O d, v = .slice O (rspots l xs p).length d ∧ L = [OwnA 182 2 O (rspots l xs p).length d (sdL (rspots l xs p))])
set_option maxHeartbeats 400000 in
theorem below_walk (height l p : Nat) (hh : height ≤ 32) (ho : okAt height (l, p)) (A : Option Addr) (c : Nat) (xs : List Nat) (hn : xs.length ≤ 256) (w0 : World) (hlow : ∀ x ∈ xs, x < 18446744073709551616) (hR : Ro w0 [] (SlA A (u64s xs))) :
    Calls Tryd.prog 130 #[.slice A xs.length c, .int .i64 (l : Int), .int .u64 (p : Int)] w0 (Post w0 [] fun v L => v = .bool (decide (cutN xs l p ≠ [])) ∧ L = []) := by
  refine Calls.of (L := []) (n := 23) (rs := [.tmp 6]) Tryd.func130 rfl rfl rfl (Nat.le_of_ble_eq_true rfl) (Sat.nil _) ?_
  obtain ⟨hl32, hp32⟩ := okAt_lt hh ho
  refine TC.seq ?_
  refine TC.region ?_
  refine S.q rfl rfl (Qt.assign (by conv => lhs; whnf)) ?_
  refine S.nil ?_
  refine TC.seq ?_
  refine TC.seq ?_
  refine TC.region ?_
  refine S.q rfl rfl (Qt.assign (by conv => lhs; whnf)) ?_
  refine S.nil ?_
  refine TC.block ?_
  refine TC.loop (γ := Nat) [8, 9, 10, 11, 14, 15, 16, 17, 18, 19, 20, 21, 22, 6, 12, 13, 7] (fun k => [(7, .int .i64 (k : Int))]) (fun _ => _) (fun k => k ≤ xs.length ∧ ∀ j, j < k → xs.getD j 0 / 2 ^ l ≠ p) (fun k => xs.length - k) (0)
    ⟨Nat.zero_le _, fun j h => absurd h (Nat.not_lt_zero _)⟩ ⟨Out.refl _ _, (List.forall_mem_cons.2 ⟨rfl, (fun _ h => nomatch h)⟩)⟩ (Sub.refl _) ?_
  rintro k u ⟨hk, hq⟩
  refine TC.seq ?_
  refine TC.seq ?_
  refine TC.region ?_
  refine S.q rfl rfl (Qt.move (by conv => lhs; whnf)) ?_
  refine S.q rfl rfl (Qt.move (by conv => lhs; whnf)) ?_
  refine S.q rfl rfl (Qt.len_slice Tryd.underlying71 rfl) ?_
  refine S.dec rfl rfl (Qt.lt rfl rfl) (fun h11 => ?_) (fun h11 => ?_)
  · refine S.nil ?_
    refine S.if_t rfl ?_
    refine TC.skip ?_
    refine TC.seq ?_
    refine TC.block ?_
    refine TC.seq ?_
    refine TC.region ?_
    refine S.q rfl rfl (Qt.move (by conv => lhs; whnf)) ?_
    refine S.q rfl rfl (Qt.move (by conv => lhs; whnf)) ?_
    refine S.q rfl rfl (Qt.index Tryd.underlying71 Tryd.cells24 rfl rfl (by omega) (Has.ro hR) (by rw [u64s_len]; omega)) ?_
    refine S.q rfl rfl (Qt.load rfl (Ld.sl (v := .int .u64 ((xs.getD (k) 0 : Nat) : Int)) (Has.ro hR) Tryd.one24 (u64s_get1 (by omega)))) ?_
    refine S.q rfl rfl (Qt.move (by conv => lhs; whnf)) ?_
    refine S.q rfl rfl (Qt.convert Tryd.underlying3 Tryd.underlying155 rfl (by simp only [kmax]; omega)) ?_
    refine S.q rfl rfl (Qt.shrN rfl rfl (by have := hlow _ (getD_mem (k := k) 0 h11); simp only [kmax]; omega)) ?_
    refine S.q rfl rfl (Qt.move (by conv => lhs; whnf)) ?_
    refine S.dec rfl rfl (Qt.eq rfl rfl) (fun h22 => ?_) (fun h22 => ?_)
    · refine S.nil ?_
      refine S.if_t rfl ?_
      refine TC.seq ?_
      refine TC.region ?_
      refine S.q rfl rfl (Qt.assign (by conv => lhs; whnf)) ?_
      refine S.nil ?_
      refine TC.ret ?_
      refine finQ.ret (RVs.tmp (by conv => lhs; whnf) RVs.nil) (Sub.nil _) ?_
      exact ⟨(congrArg Value.bool (decide_eq_true (cutN_hit h11 h22))).symm, rfl⟩
    · refine S.nil ?_
      refine S.if_f rfl ?_
      refine TC.skip ?_
      refine TC.region ?_
      refine S.q rfl rfl (Qt.move (by conv => lhs; whnf)) ?_
      refine S.q rfl rfl (Qt.add (b := 1) rfl rfl (by simp only [kmax]; omega)) ?_
      refine S.q rfl rfl (Qt.assign (by conv => lhs; whnf)) ?_
      refine S.nil ?_
      refine ⟨k + 1, ?_, ?_, ⟨?_, (List.forall_mem_cons.2 ⟨rfl, (fun _ h => nomatch h)⟩)⟩, Sub.refl _⟩
      · exact ⟨by show _ ≤ _; omega, fun j hj => (Nat.lt_or_ge j k).elim (hq j) (fun h => by (obtain rfl : j = k := by omega); exact h22)⟩
      · show _ < _; dsimp only; omega
      repeat (first | exact Out.refl _ _ | refine Out.put rfl ?_ | refine Out.puts rfl ?_ | refine Out.scr ?_ | refine Out.scr' rfl ?_)
  · refine S.nil ?_
    refine S.if_f rfl ?_
    refine TC.exit ?_
    refine TC.seq ?_
    refine TC.region ?_
    refine S.q rfl rfl (Qt.assign (by conv => lhs; whnf)) ?_
    refine S.nil ?_
    refine TC.ret ?_
    refine finQ.ret (RVs.tmp (by conv => lhs; whnf) RVs.nil) (Sub.nil _) ?_
    exact ⟨(congrArg Value.bool (decide_eq_false (fun h => h (cutN_miss (fun j hj => hq j (by omega)))))).symm, rfl⟩
theorem below_R (height l p : Nat) (hh : height ≤ 32) (ho : okAt height (l, p)) (A : Option Addr) (c : Nat) (xs : List Nat) (hn : xs.length ≤ 256) (w0 : World) (hlow : ∀ x ∈ xs, x < 18446744073709551616) (hR : Ro w0 [] (SlA A (u64s xs))) : Calls Tryd.prog 130 #[.slice A xs.length c, .int .i64 (l : Int), .int .u64 (p : Int)] w0 (Ret w0 (.bool (decide (cutN xs l p ≠ [])))) := Calls.ret (below_walk height l p hh ho A c xs hn w0 hlow hR)
theorem below_T (height l p : Nat) (hh : height ≤ 32) (ho : okAt height (l, p)) (A : Option Addr) (c : Nat) (xs : List Nat) (hn : xs.length ≤ 256) (he : cutN xs l p ≠ []) (w0 : World) (hlow : ∀ x ∈ xs, x < 18446744073709551616) (hR : Ro w0 [] (SlA A (u64s xs))) : Calls Tryd.prog 130 #[.slice A xs.length c, .int .i64 (l : Int), .int .u64 (p : Int)] w0 (Ret w0 (.bool true)) := by
  have h := below_R height l p hh ho A c xs hn w0 hlow hR
  rwa [decide_eq_true he] at h
theorem below_F (height l p : Nat) (hh : height ≤ 32) (ho : okAt height (l, p)) (A : Option Addr) (c : Nat) (xs : List Nat) (hn : xs.length ≤ 256) (he : cutN xs l p = []) (w0 : World) (hlow : ∀ x ∈ xs, x < 18446744073709551616) (hR : Ro w0 [] (SlA A (u64s xs))) : Calls Tryd.prog 130 #[.slice A xs.length c, .int .i64 (l : Int), .int .u64 (p : Int)] w0 (Ret w0 (.bool false)) := by
  have h := below_R height l p hh ho A c xs hn w0 hlow hR
  rwa [decide_eq_false (fun h => h he)] at h

set_option maxHeartbeats 400000 in
theorem spot_walkE (height : Nat) (hh : height ≤ 32) (A : Option Addr) (c : Nat) (xs : List Nat) (hn : xs.length ≤ 256) (hlow : ∀ x ∈ xs, x < 18446744073709551616) (l p : Nat) (w0 : World) (ho : okAt height (l, p)) (hR : Ro w0 [] (SlA A (u64s xs))) (he : cutN xs l p = []) :
    Calls Tryd.prog 106 #[.slice A xs.length c, .int .i64 ((l : Nat) : Int), .int .u64 (p : Int)] w0 (Post w0 [] fun v L => ∃ O d, v = .slice O (rspots (l) xs p).length d ∧ L = [OwnA 182 2 O (rspots (l) xs p).length d (sdL (rspots (l) xs p))]) := by
  refine Calls.of (L := []) (n := 32) (rs := [.tmp 6]) Tryd.func106 rfl rfl rfl (Nat.le_of_ble_eq_true rfl) (Sat.nil _) ?_
  refine TC.seq ?_
  refine TC.region ?_
  refine S.q rfl rfl (Qt.assign (by conv => lhs; whnf)) ?_
  refine S.nil ?_
  refine TC.seq ?_
  refine TC.seq ?_
  refine TC.region ?_
  refine S.q rfl rfl (Qt.move (by conv => lhs; whnf)) ?_
  refine S.q rfl rfl (Qt.move (by conv => lhs; whnf)) ?_
  refine S.q rfl rfl (Qt.move (by conv => lhs; whnf)) ?_
  refine S.opS rfl rfl (OpV.con0 Tryd.ent130 rfl (fun w hw => below_F height (l) p hh ho A c xs hn he w hlow (Rd.ro hR w hw)) ?_)
  refine S.q rfl rfl (Qt.not_f rfl) ?_
  refine S.nil ?_
  refine S.if_t rfl ?_
  refine TC.seq ?_
  refine TC.region ?_
  refine S.q rfl rfl (Qt.move (by conv => lhs; whnf)) ?_
  refine S.q rfl rfl (Qt.move (by conv => lhs; whnf)) ?_
  refine S.q rfl rfl (Qt.as (Qt.buildS (vs := [.int .i64 (l : Int), .int .u64 (p : Int)]) (pls := #[(0, 1), (1, 1)]) Tryd.underlying182 (fun w => by kernel_rfl) Tryd.zero182 rfl ⟨rfl, rfl, trivial⟩ rfl) (show _ = Value.agg #[.int .i64 (l : Int), .int .u64 (p : Int)] from rfl)) ?_
  refine S.opS rfl rfl (OpV.sliceLO (vs := [.agg #[.int .i64 (l : Int), .int .u64 (p : Int)]]) Tryd.underlying172 Tryd.elem182 rfl (by decide) rfl (by intro v hv; rw [List.mem_singleton.1 hv]; rfl) (fun g15 => ?_))
  refine S.q rfl rfl (Qt.assign (by conv => lhs; whnf)) ?_
  refine S.nil ?_
  refine TC.ret ?_
  refine finQ.ret (RVs.tmp (by conv => lhs; whnf) RVs.nil) (Sub.refl _) ?_
  exact ⟨some ⟨g15, 0, none⟩, 1, by rw [rspots_nil he]; rfl, by rw [rspots_nil he]; rfl⟩
set_option maxHeartbeats 400000 in
theorem spot_walk0 (height : Nat) (hh : height ≤ 32) (A : Option Addr) (c : Nat) (xs : List Nat) (hn : xs.length ≤ 256) (hlow : ∀ x ∈ xs, x < 18446744073709551616) (p : Nat) (w0 : World) (ho : okAt height (0, p)) (hR : Ro w0 [] (SlA A (u64s xs))) (he : cutN xs 0 p ≠ []) :
    Calls Tryd.prog 106 #[.slice A xs.length c, .int .i64 ((0 : Nat) : Int), .int .u64 (p : Int)] w0 (Post w0 [] fun v L => ∃ O d, v = .slice O (rspots (0) xs p).length d ∧ L = [OwnA 182 2 O (rspots (0) xs p).length d (sdL (rspots (0) xs p))]) := by
  refine Calls.of (L := []) (n := 32) (rs := [.tmp 6]) Tryd.func106 rfl rfl rfl (Nat.le_of_ble_eq_true rfl) (Sat.nil _) ?_
  refine TC.ownNil 182 2 ?_
  refine TC.seq ?_
  refine TC.region ?_
  refine S.q rfl rfl (Qt.assign (by conv => lhs; whnf)) ?_
  refine S.nil ?_
  refine TC.seq ?_
  refine TC.seq ?_
  refine TC.region ?_
  refine S.q rfl rfl (Qt.move (by conv => lhs; whnf)) ?_
  refine S.q rfl rfl (Qt.move (by conv => lhs; whnf)) ?_
  refine S.q rfl rfl (Qt.move (by conv => lhs; whnf)) ?_
  refine S.opS rfl rfl (OpV.con0 Tryd.ent130 rfl (fun w hw => below_T height (0) p hh ho A c xs hn he w hlow (Rd.ro hR w hw)) ?_)
  refine S.q rfl rfl (Qt.not_t rfl) ?_
  refine S.nil ?_
  refine S.if_f rfl ?_
  refine TC.skip ?_
  refine TC.seq ?_
  refine TC.seq ?_
  refine TC.region ?_
  refine S.q rfl rfl (Qt.move (by conv => lhs; whnf)) ?_
  refine S.q rfl rfl (Qt.dT (Qt.eq (b := 0) rfl rfl) (rfl)) ?_
  refine S.nil ?_
  refine S.if_t rfl ?_
  refine TC.seq ?_
  refine TC.region ?_
  refine S.q rfl rfl (Qt.assign (by conv => lhs; whnf)) ?_
  refine S.nil ?_
  refine TC.ret ?_
  refine finQ.ret (RVs.tmp (by conv => lhs; whnf) RVs.nil) (Sub.refl _) ?_
  exact ⟨none, 0, by rw [rspots_zero he]; rfl, by rw [rspots_zero he]; rfl⟩
set_option maxHeartbeats 400000 in
theorem spot_walkS (height : Nat) (hh : height ≤ 32) (A : Option Addr) (c : Nat) (xs : List Nat) (hn : xs.length ≤ 256) (hlow : ∀ x ∈ xs, x < 18446744073709551616) (l p : Nat) (w0 : World) (ho : okAt height (l + 1, p)) (hR : Ro w0 [] (SlA A (u64s xs))) (he : cutN xs (l + 1) p ≠ []) (hrec : SpotC height A c xs l) :
    Calls Tryd.prog 106 #[.slice A xs.length c, .int .i64 ((l + 1 : Nat) : Int), .int .u64 (p : Int)] w0 (Post w0 [] fun v L => ∃ O d, v = .slice O (rspots (l + 1) xs p).length d ∧ L = [OwnA 182 2 O (rspots (l + 1) xs p).length d (sdL (rspots (l + 1) xs p))]) := by
  refine Calls.of (L := []) (n := 32) (rs := [.tmp 6]) Tryd.func106 rfl rfl rfl (Nat.le_of_ble_eq_true rfl) (Sat.nil _) ?_
  obtain ⟨hl32, hp32⟩ := okAt_lt hh ho
  obtain ⟨okl, okr⟩ := okAt_kids ho
  have hb : ∀ q, (rspots l xs q).length ≤ 8193 := fun q => by have h1 := rspots_len l xs q; have h2 : xs.length * l ≤ 256 * 32 := Nat.mul_le_mul hn (by omega); omega
  have hb1 := hb (2 * p)
  have hb2 := hb (2 * p + 1)
  refine TC.seq ?_
  refine TC.region ?_
  refine S.q rfl rfl (Qt.assign (by conv => lhs; whnf)) ?_
  refine S.nil ?_
  refine TC.seq ?_
  refine TC.seq ?_
  refine TC.region ?_
  refine S.q rfl rfl (Qt.move (by conv => lhs; whnf)) ?_
  refine S.q rfl rfl (Qt.move (by conv => lhs; whnf)) ?_
  refine S.q rfl rfl (Qt.move (by conv => lhs; whnf)) ?_
  refine S.opS rfl rfl (OpV.con0 Tryd.ent130 rfl (fun w hw => below_T height (l + 1) p hh ho A c xs hn he w hlow (Rd.ro hR w hw)) ?_)
  refine S.q rfl rfl (Qt.not_t rfl) ?_
  refine S.nil ?_
  refine S.if_f rfl ?_
  refine TC.skip ?_
  refine TC.seq ?_
  refine TC.seq ?_
  refine TC.region ?_
  refine S.q rfl rfl (Qt.move (by conv => lhs; whnf)) ?_
  refine S.q rfl rfl (Qt.dF (Qt.eq (b := 0) rfl rfl) (by omega)) ?_
  refine S.nil ?_
  refine S.if_f rfl ?_
  refine TC.skip ?_
  refine TC.seq ?_
  refine TC.region ?_
  refine S.q rfl rfl (Qt.move (by conv => lhs; whnf)) ?_
  refine S.q rfl rfl (Qt.move (by conv => lhs; whnf)) ?_
  refine S.q rfl rfl (Qt.as (Qt.sub (a := l + 1) (b := 1) rfl rfl (by omega) (by simp only [kmax]; omega)) (by rw [Nat.add_sub_cancel])) ?_
  refine S.q rfl rfl (Qt.move (by conv => lhs; whnf)) ?_
  refine S.q rfl rfl (Qt.mul (a := 2) rfl rfl (by simp only [kmax]; omega)) ?_
  refine S.opS rfl rfl (OpV.con (Pre := []) (R := _) Tryd.ent106 rfl (List.Perm.refl _) (fun w hw => hrec (2 * p) w okl (Rd.ro hR w hw)) ?_)
  rintro v L' ⟨O1, d1, rfl, rfl⟩
  refine S.q rfl rfl (Qt.move (by conv => lhs; whnf)) ?_
  refine S.q rfl rfl (Qt.move (by conv => lhs; whnf)) ?_
  refine S.q rfl rfl (Qt.as (Qt.sub (a := l + 1) (b := 1) rfl rfl (by omega) (by simp only [kmax]; omega)) (by rw [Nat.add_sub_cancel])) ?_
  refine S.q rfl rfl (Qt.move (by conv => lhs; whnf)) ?_
  refine S.q rfl rfl (Qt.mul (a := 2) rfl rfl (by simp only [kmax]; omega)) ?_
  refine S.q rfl rfl (Qt.add (b := 1) rfl rfl (by simp only [kmax]; omega)) ?_
  refine S.opS rfl rfl (OpV.con (Pre := []) (R := _) Tryd.ent106 rfl (List.Perm.refl _) (fun w hw => hrec (2 * p + 1) w okr (Rd.ro hR w hw)) ?_)
  rintro v L' ⟨O2, d2, rfl, rfl⟩
  refine S.opS rfl rfl (OpV.app1 (bytes := 16) (news := sdL (rspots l xs (2 * p + 1))) Tryd.underlying172 Tryd.elem182 rfl rfl (Has.own (Has.at 0 rfl)) (sdL_len _) (sdL_one _) (by simp only [maxLen]; omega) (by omega) (fun O3 d3 => ?_))
  refine S.q rfl rfl (Qt.assign (by conv => lhs; whnf)) ?_
  refine S.nil ?_
  refine TC.ret ?_
  refine finQ.ret (RVs.tmp (by conv => lhs; whnf) RVs.nil) (Sub.trans (Sub.keep _ (Sub.drop _ (Sub.nil []))) (Sub.trans (Sub.keep _ (Sub.refl _)) (Sub.of_perm (List.perm_middle (l₁ := [_]))))) ?_
  exact ⟨O3, d3, by rw [rspots_succ he, List.length_append]; rfl, by rw [rspots_succ he, List.length_append, sdL_app]⟩
theorem spot_C (height : Nat) (hh : height ≤ 32) (A : Option Addr) (c : Nat) (xs : List Nat) (hn : xs.length ≤ 256) (hlow : ∀ x ∈ xs, x < 18446744073709551616) : ∀ l, SpotC height A c xs l
  | 0 => fun p w0 ho hR => by
    by_cases he : cutN xs 0 p = []
    · exact spot_walkE height hh A c xs hn hlow 0 p w0 ho hR he
    · exact spot_walk0 height hh A c xs hn hlow p w0 ho hR he
  | l + 1 => fun p w0 ho hR => by
    by_cases he : cutN xs (l + 1) p = []
    · exact spot_walkE height hh A c xs hn hlow (l + 1) p w0 ho hR he
    · exact spot_walkS height hh A c xs hn hlow l p w0 ho hR he (spot_C height hh A c xs hn hlow l)

set_option maxHeartbeats 800000 in
theorem rmake10_walk (E : Nat → H32) (hE : ∀ h, E (h + 1) = joinH (h + 1) (E h) (E h)) (height : Nat) (hh : height ≤ 32) (ls : Ls) (A : Option Addr) (c : Nat) (O : Option Addr) (d : Nat) (B : Option Addr) (e : Nat) (xs : List Nat) (hi : idxOk height xs) (w0 : World) (hlen : ls.length ≤ 4096) (hlow : ∀ x ∈ ls, x.1 < 18446744073709551616) (hL : Ro w0 [] (SlA A (ls.flatMap leafL))) (hO : Ro w0 [] (SlA O (hcs (emptL E)))) (hlowx : ∀ x ∈ xs, x < 18446744073709551616) (hR : Ro w0 [] (SlA B (u64s xs))) (hT : Tabs 3 1 w0 []) :
    Calls Tryd.prog 68 #[.agg #[.int .i64 (height : Int), .slice A ls.length c, .slice O 33 d], .slice B xs.length e] w0 (Post w0 [] fun v L => ∃ P q, v = .slice P (spots height xs 0).length q ∧ L = [OwnA 23 32 P (spots height xs 0).length q (hcs ((spots height xs 0).map (fun a : Nat × Nat => nodeH (fL E ls) a.1 a.2)))]) := by
  refine Calls.of (L := []) (n := 34) (rs := [.tmp 4]) Tryd.func68 rfl rfl rfl (Nat.le_of_ble_eq_true rfl) (Sat.nil _) ?_
  have hse : rspots height xs 0 = spots height xs 0 := by rw [rspots_eq, cutN_all hi.root]
  have hsp : (rspots height xs 0).length ≤ 8193 := by have h1 := rspots_len height xs 0; have h2 : xs.length * height ≤ 256 * 32 := Nat.mul_le_mul hi.2.1 hh; omega
  have hok : ∀ a ∈ (rspots height xs 0), okAt height a := by rw [hse]; exact spots_ok height xs 0 (okRoot height)
  refine TC.ownNil 23 32 ?_
  refine TC.seq ?_
  refine TC.region ?_
  refine S.opS rfl rfl (OpV.box (v := .agg #[.int .i64 (height : Int), .slice A ls.length c, .slice O 33 d]) rfl (fun b2 => ?_))
  refine S.q rfl rfl (Qt.assign (by conv => lhs; whnf)) ?_
  refine S.nil ?_
  refine TC.seq ?_
  refine TC.region ?_
  refine S.q rfl rfl (Qt.assign (by conv => lhs; whnf)) ?_
  refine S.nil ?_
  refine TC.seq ?_
  refine TC.region ?_
  refine S.q rfl rfl (Qt.move (by conv => lhs; whnf)) ?_
  refine S.q rfl rfl (Qt.field Tryd.underlying52 rfl Tryd.cells3 rfl) ?_
  refine S.q rfl rfl (Qt.load rfl (Ld.one (v := .int .i64 (height : Int)) (Has.at 0 rfl) Tryd.one3 rfl)) ?_
  refine S.opS rfl rfl (OpV.con (Pre := []) (R := _) Tryd.ent106 rfl (List.Perm.refl _) (fun w hw => spot_C height hh B e xs hi.2.1 hlowx height 0 w (okRoot height) (Rd.ro hR w hw)) ?_)
  rintro v L' ⟨P0, sd, rfl, rfl⟩
  refine S.q rfl rfl (Qt.assign (by conv => lhs; whnf)) ?_
  refine S.nil ?_
  refine TC.seq ?_
  refine TC.seq ?_
  refine TC.region ?_
  refine S.q rfl rfl (Qt.assign (by conv => lhs; whnf)) ?_
  refine S.nil ?_
  refine TC.block ?_
  refine TC.loop (γ := Nat × Option Addr × Nat) [12, 13, 14, 15, 18, 19, 20, 21, 22, 23, 24, 25, 26, 27, 28, 29, 30, 31, 32, 5, 16, 17, 7] (fun g => [(7, .int .i64 ((g.1 : Nat) : Int)), (5, .slice g.2.1 g.1 g.2.2)]) (fun g => [OwnA 182 2 P0 ((rspots height xs 0)).length sd (sdL ((rspots height xs 0))), Blk b2 52 (vl (.agg #[.int .i64 (height : Int), .slice A ls.length c, .slice O 33 d])), OwnA 23 32 g.2.1 g.1 g.2.2 (hcs (((rspots height xs 0).take g.1).map (fun a : Nat × Nat => nodeH (fL E ls) a.1 a.2)))]) (fun g => g.1 ≤ (rspots height xs 0).length) (fun g => (rspots height xs 0).length - g.1) ((0, none, 0))
    (Nat.zero_le _) ⟨Out.refl _ _, (List.forall_mem_cons.2 ⟨rfl, (List.forall_mem_cons.2 ⟨rfl, (fun _ h => nomatch h)⟩)⟩)⟩ (Sub.refl _) ?_
  rintro ⟨k, P, q⟩ u hk
  dsimp only at hk
  refine TC.seq ?_
  refine TC.seq ?_
  refine TC.region ?_
  refine S.q rfl rfl (Qt.move (by conv => lhs; whnf)) ?_
  refine S.q rfl rfl (Qt.move (by conv => lhs; whnf)) ?_
  refine S.q rfl rfl (Qt.len_slice Tryd.underlying172 rfl) ?_
  refine S.dec rfl rfl (Qt.lt rfl rfl) (fun h15 => ?_) (fun h15 => ?_)
  · refine S.nil ?_
    refine S.if_t rfl ?_
    refine TC.skip ?_
    refine TC.seq ?_
    refine TC.block ?_
    refine S.draw ([14], [13]) Tryd.mixed (Sub.nil _) ?_
    refine D.qX (k := 0) rfl (by kernel_rfl) (by kernel_rfl) (by kernel_rfl) rfl rfl (Qt.move (by conv => lhs; whnf)) ?_
    refine D.qX (k := 1) rfl (by kernel_rfl) (by kernel_rfl) (by kernel_rfl) rfl rfl (Qt.load rfl (Ld.all (vs := vl (.agg #[.int .i64 (height : Int), .slice A ls.length c, .slice O 33 d])) (Has.at 1 rfl) Tryd.row52 Tryd.cells52)) ?_
    refine D.qX (k := 2) rfl (by kernel_rfl) (by kernel_rfl) (by kernel_rfl) rfl rfl (Qt.move (by conv => lhs; whnf)) ?_
    refine D.qX (k := 3) rfl (by kernel_rfl) (by kernel_rfl) (by kernel_rfl) rfl rfl (Qt.move (by conv => lhs; whnf)) ?_
    refine D.qX (k := 4) rfl (by kernel_rfl) (by kernel_rfl) (by kernel_rfl) rfl rfl (Qt.index Tryd.underlying172 Tryd.cells182 rfl rfl (by omega) (Has.own (Has.at 0 rfl)) (by rw [sdL_len]; omega)) ?_
    refine D.qX (k := 5) rfl (by kernel_rfl) (by kernel_rfl) (by kernel_rfl) rfl rfl (Qt.fieldS Tryd.underlying182 rfl Tryd.cells3 rfl (Has.own (Has.at 0 rfl)) (by rw [sdL_len]; omega)) ?_
    refine D.qX (k := 6) rfl (by kernel_rfl) (by kernel_rfl) (by kernel_rfl) rfl rfl (Qt.load rfl (Ld.sl (v := .int .i64 (((rspots height xs 0).getD k (0, 0)).1 : Int)) (Has.own (Has.at 0 rfl)) Tryd.one3 (sdL_at (by omega)).1)) ?_
    refine D.qX (k := 7) rfl (by kernel_rfl) (by kernel_rfl) (by kernel_rfl) rfl rfl (Qt.move (by conv => lhs; whnf)) ?_
    refine D.qX (k := 8) rfl (by kernel_rfl) (by kernel_rfl) (by kernel_rfl) rfl rfl (Qt.move (by conv => lhs; whnf)) ?_
    refine D.qX (k := 9) rfl (by kernel_rfl) (by kernel_rfl) (by kernel_rfl) rfl rfl (Qt.index Tryd.underlying172 Tryd.cells182 rfl rfl (by omega) (Has.own (Has.at 0 rfl)) (by rw [sdL_len]; omega)) ?_
    refine D.qX (k := 10) rfl (by kernel_rfl) (by kernel_rfl) (by kernel_rfl) rfl rfl (Qt.fieldS Tryd.underlying182 rfl Tryd.cells24 rfl (Has.own (Has.at 0 rfl)) (by rw [sdL_len]; omega)) ?_
    refine D.qX (k := 11) rfl (by kernel_rfl) (by kernel_rfl) (by kernel_rfl) rfl rfl (Qt.load rfl (Ld.sl (v := .int .u64 (((rspots height xs 0).getD k (0, 0)).2 : Int)) (Has.own (Has.at 0 rfl)) Tryd.one24 (sdL_at (by omega)).2)) ?_
    refine D.cX (k := 12) rfl (by kernel_rfl) (by kernel_rfl) (by kernel_rfl) rfl rfl (CalU.con0 Tryd.ent36 rfl (fun w hw => rnode_R E hE height hh ls A c O d ((rspots height xs 0).getD k (0, 0)).1 ((rspots height xs 0).getD k (0, 0)).2 (hok _ (getD_mem (0, 0) h15)) w hlen hlow (Rd.ro hL w hw) (Rd.ro hO w hw) (hT.at hw))) ?_
    refine D.nS (k := 13) (Sub.nil _) rfl (by kernel_rfl) (by kernel_rfl) rfl rfl (OpV.slice1 (bytes := 32) (v := hv ((fun a : Nat × Nat => nodeH (fL E ls) a.1 a.2) ((rspots height xs 0).getD k (0, 0)))) Tryd.underlying44 Tryd.elem23 (by decide) rfl (hv_len _) (fun g31 => ⟨Sub.drop _ (Sub.keep _ (Sub.keep _ (Sub.keep _ (Sub.nil [])))), ?_⟩))
    refine D.opS (k := 14) (Sub.nil _) rfl (by kernel_rfl) (by kernel_rfl) rfl rfl (OpV.app3 (bytes := 32) (news := hvl ((fun a : Nat × Nat => nodeH (fL E ls) a.1 a.2) ((rspots height xs 0).getD k (0, 0)))) Tryd.underlying44 Tryd.elem23 rfl rfl (Has.blk (cs := hvl ((fun a : Nat × Nat => nodeH (fL E ls) a.1 a.2) ((rspots height xs 0).getD k (0, 0)))) (Has.at 0 rfl)) (by rw [hvl_length]) (bytesL_one _) (by simp only [maxLen]; omega) (by omega) (fun O' d' => ⟨Sub.nil _, ?_⟩))
    refine D.qX (k := 15) rfl (by kernel_rfl) (by kernel_rfl) (by kernel_rfl) rfl rfl (Qt.assign (by conv => lhs; whnf)) ?_
    refine D.done (Sub.nil _) (by kernel_rfl) ?_
    refine TC.region ?_
    refine S.q rfl rfl (Qt.move (by conv => lhs; whnf)) ?_
    refine S.q rfl rfl (Qt.add (b := 1) rfl rfl (by simp only [kmax]; omega)) ?_
    refine S.q rfl rfl (Qt.assign (by conv => lhs; whnf)) ?_
    refine S.nil ?_
    refine ⟨(k + 1, O', d'), ?_, ?_, ⟨?_, (List.forall_mem_cons.2 ⟨rfl, (List.forall_mem_cons.2 ⟨rfl, (fun _ h => nomatch h)⟩)⟩)⟩, (by dsimp only; rw [← map_step (fun a : Nat × Nat => nodeH (fL E ls) a.1 a.2) (0, 0) h15]; exact Sub.trans (Sub.keep _ (Sub.keep _ (Sub.keep _ (Sub.drop _ (Sub.nil []))))) (Sub.trans (Sub.keep _ (Sub.trans (Sub.keep _ (Sub.trans (Sub.keep _ (Sub.refl _)) (Sub.of_perm (List.perm_middle (l₁ := [_]))))) (Sub.of_perm (List.perm_middle (l₁ := [_]))))) (Sub.of_perm (List.perm_middle (l₁ := [_])))))⟩
    · show _ ≤ _; dsimp only; omega
    · show _ < _; dsimp only; omega
    repeat (first | exact Out.refl _ _ | refine Out.put rfl ?_ | refine Out.puts rfl ?_ | refine Out.scr ?_ | refine Out.scr' rfl ?_)
  · refine S.nil ?_
    refine S.if_f rfl ?_
    refine TC.exit ?_
    refine TC.seq ?_
    refine TC.region ?_
    refine S.q rfl rfl (Qt.move (by conv => lhs; whnf)) ?_
    refine S.q rfl rfl (Qt.assign (by conv => lhs; whnf)) ?_
    refine S.nil ?_
    refine TC.ret ?_
    refine finQ.ret (RVs.tmp (by conv => lhs; whnf) RVs.nil) (Sub.trans (Sub.keep _ (Sub.drop _ (Sub.drop _ (Sub.nil [])))) (Sub.trans (Sub.keep _ (Sub.refl _)) (Sub.of_perm (List.perm_middle (l₁ := [_, _]))))) ?_
    obtain rfl : k = (rspots height xs 0).length := by omega
    exact ⟨P, q, by rw [← hse]; rfl, by rw [List.take_length, ← hse]⟩
set_option maxHeartbeats 800000 in
theorem rleaves10_walk (E : Nat → H32) (hE : ∀ h, E (h + 1) = joinH (h + 1) (E h) (E h)) (height : Nat) (hh : height ≤ 32) (ls : Ls) (A : Option Addr) (c : Nat) (O : Option Addr) (d : Nat) (B : Option Addr) (e : Nat) (xs : List Nat) (hi : idxOk height xs) (w0 : World) (hlen : ls.length ≤ 4096) (hlow : ∀ x ∈ ls, x.1 < 18446744073709551616) (hL : Ro w0 [] (SlA A (ls.flatMap leafL))) (hO : Ro w0 [] (SlA O (hcs (emptL E)))) (hlowx : ∀ x ∈ xs, x < 18446744073709551616) (hR : Ro w0 [] (SlA B (u64s xs))) (hT : Tabs 3 1 w0 []) :
    Calls Tryd.prog 69 #[.agg #[.int .i64 (height : Int), .slice A ls.length c, .slice O 33 d], .slice B xs.length e] w0 (Post w0 [] fun v L => ∃ P q, v = .slice P xs.length q ∧ L = [OwnA 23 32 P xs.length q (hcs (xs.map (fun x => nodeH (fL E ls) 0 x)))]) := by
  refine Calls.of (L := []) (n := 23) (rs := [.tmp 4]) Tryd.func69 rfl rfl rfl (Nat.le_of_ble_eq_true rfl) (Sat.nil _) ?_
  have hn := hi.2.1
  refine TC.ownNil 23 32 ?_
  refine TC.seq ?_
  refine TC.region ?_
  refine S.opS rfl rfl (OpV.box (v := .agg #[.int .i64 (height : Int), .slice A ls.length c, .slice O 33 d]) rfl (fun b2 => ?_))
  refine S.q rfl rfl (Qt.assign (by conv => lhs; whnf)) ?_
  refine S.nil ?_
  refine TC.seq ?_
  refine TC.region ?_
  refine S.q rfl rfl (Qt.assign (by conv => lhs; whnf)) ?_
  refine S.nil ?_
  refine TC.seq ?_
  refine TC.seq ?_
  refine TC.region ?_
  refine S.q rfl rfl (Qt.assign (by conv => lhs; whnf)) ?_
  refine S.nil ?_
  refine TC.block ?_
  refine TC.loop (γ := Nat × Option Addr × Nat) [7, 8, 9, 10, 13, 14, 15, 16, 17, 18, 19, 20, 21, 5, 11, 12, 6] (fun g => [(6, .int .i64 ((g.1 : Nat) : Int)), (5, .slice g.2.1 g.1 g.2.2)]) (fun g => [Blk b2 52 (vl (.agg #[.int .i64 (height : Int), .slice A ls.length c, .slice O 33 d])), OwnA 23 32 g.2.1 g.1 g.2.2 (hcs ((xs.take g.1).map (fun x => nodeH (fL E ls) 0 x)))]) (fun g => g.1 ≤ xs.length) (fun g => xs.length - g.1) ((0, none, 0))
    (Nat.zero_le _) ⟨Out.refl _ _, (List.forall_mem_cons.2 ⟨rfl, (List.forall_mem_cons.2 ⟨rfl, (fun _ h => nomatch h)⟩)⟩)⟩ (Sub.refl _) ?_
  rintro ⟨k, P, q⟩ u hk
  dsimp only at hk
  refine TC.seq ?_
  refine TC.seq ?_
  refine TC.region ?_
  refine S.q rfl rfl (Qt.move (by conv => lhs; whnf)) ?_
  refine S.q rfl rfl (Qt.move (by conv => lhs; whnf)) ?_
  refine S.q rfl rfl (Qt.len_slice Tryd.underlying71 rfl) ?_
  refine S.dec rfl rfl (Qt.lt rfl rfl) (fun h10 => ?_) (fun h10 => ?_)
  · refine S.nil ?_
    refine S.if_t rfl ?_
    refine TC.skip ?_
    refine TC.seq ?_
    refine TC.block ?_
    refine S.draw ([8], [7]) Tryd.mixed (Sub.nil _) ?_
    refine D.qX (k := 0) rfl (by kernel_rfl) (by kernel_rfl) (by kernel_rfl) rfl rfl (Qt.move (by conv => lhs; whnf)) ?_
    refine D.qX (k := 1) rfl (by kernel_rfl) (by kernel_rfl) (by kernel_rfl) rfl rfl (Qt.load rfl (Ld.all (vs := vl (.agg #[.int .i64 (height : Int), .slice A ls.length c, .slice O 33 d])) (Has.at 0 rfl) Tryd.row52 Tryd.cells52)) ?_
    refine D.qX (k := 2) rfl (by kernel_rfl) (by kernel_rfl) (by kernel_rfl) rfl rfl (Qt.move (by conv => lhs; whnf)) ?_
    refine D.qX (k := 3) rfl (by kernel_rfl) (by kernel_rfl) (by kernel_rfl) rfl rfl (Qt.move (by conv => lhs; whnf)) ?_
    refine D.qX (k := 4) rfl (by kernel_rfl) (by kernel_rfl) (by kernel_rfl) rfl rfl (Qt.index Tryd.underlying71 Tryd.cells24 rfl rfl (by omega) (Has.ro hR) (by rw [u64s_len]; omega)) ?_
    refine D.qX (k := 5) rfl (by kernel_rfl) (by kernel_rfl) (by kernel_rfl) rfl rfl (Qt.load rfl (Ld.sl (v := .int .u64 ((xs.getD k 0 : Nat) : Int)) (Has.ro hR) Tryd.one24 (u64s_get1 (by omega)))) ?_
    refine D.cX (k := 6) rfl (by kernel_rfl) (by kernel_rfl) (by kernel_rfl) rfl rfl (CalU.con0 Tryd.ent36 rfl (fun w hw => rnode_R E hE height hh ls A c O d 0 (xs.getD k 0) (ok0 (hi.low _ (getD_mem 0 h10))) w hlen hlow (Rd.ro hL w hw) (Rd.ro hO w hw) (hT.at hw))) ?_
    refine D.nS (k := 7) (Sub.nil _) rfl (by kernel_rfl) (by kernel_rfl) rfl rfl (OpV.slice1 (bytes := 32) (v := hv (nodeH (fL E ls) 0 (xs.getD k 0))) Tryd.underlying44 Tryd.elem23 (by decide) rfl (hv_len _) (fun g20 => ⟨Sub.drop _ (Sub.keep _ (Sub.keep _ (Sub.nil []))), ?_⟩))
    refine D.opS (k := 8) (Sub.nil _) rfl (by kernel_rfl) (by kernel_rfl) rfl rfl (OpV.app2 (bytes := 32) (news := hvl (nodeH (fL E ls) 0 (xs.getD k 0))) Tryd.underlying44 Tryd.elem23 rfl rfl (Has.blk (cs := hvl (nodeH (fL E ls) 0 (xs.getD k 0))) (Has.at 0 rfl)) (by rw [hvl_length]) (bytesL_one _) (by simp only [maxLen]; omega) (by omega) (fun O' d' => ⟨Sub.nil _, ?_⟩))
    refine D.qX (k := 9) rfl (by kernel_rfl) (by kernel_rfl) (by kernel_rfl) rfl rfl (Qt.assign (by conv => lhs; whnf)) ?_
    refine D.done (Sub.nil _) (by kernel_rfl) ?_
    refine TC.region ?_
    refine S.q rfl rfl (Qt.move (by conv => lhs; whnf)) ?_
    refine S.q rfl rfl (Qt.add (b := 1) rfl rfl (by simp only [kmax]; omega)) ?_
    refine S.q rfl rfl (Qt.assign (by conv => lhs; whnf)) ?_
    refine S.nil ?_
    refine ⟨(k + 1, O', d'), ?_, ?_, ⟨?_, (List.forall_mem_cons.2 ⟨rfl, (List.forall_mem_cons.2 ⟨rfl, (fun _ h => nomatch h)⟩)⟩)⟩, (by dsimp only; rw [← map_step (fun x => nodeH (fL E ls) 0 x) 0 h10]; exact Sub.trans (Sub.keep _ (Sub.keep _ (Sub.drop _ (Sub.nil [])))) (Sub.trans (Sub.keep _ (Sub.trans (Sub.keep _ (Sub.refl _)) (Sub.of_perm (List.perm_middle (l₁ := [_]))))) (Sub.of_perm (List.perm_middle (l₁ := [_])))))⟩
    · show _ ≤ _; dsimp only; omega
    · show _ < _; dsimp only; omega
    repeat (first | exact Out.refl _ _ | refine Out.put rfl ?_ | refine Out.puts rfl ?_ | refine Out.scr ?_ | refine Out.scr' rfl ?_)
  · refine S.nil ?_
    refine S.if_f rfl ?_
    refine TC.exit ?_
    refine TC.seq ?_
    refine TC.region ?_
    refine S.q rfl rfl (Qt.move (by conv => lhs; whnf)) ?_
    refine S.q rfl rfl (Qt.assign (by conv => lhs; whnf)) ?_
    refine S.nil ?_
    refine TC.ret ?_
    refine finQ.ret (RVs.tmp (by conv => lhs; whnf) RVs.nil) (Sub.trans (Sub.keep _ (Sub.drop _ (Sub.nil []))) (Sub.trans (Sub.keep _ (Sub.refl _)) (Sub.of_perm (List.perm_middle (l₁ := [_]))))) ?_
    obtain rfl : k = xs.length := by omega
    exact ⟨P, q, rfl, by rw [List.take_length]⟩
set_option maxHeartbeats 400000 in
theorem cloneu_walk (A : Option Addr) (c : Nat) (xs : List Nat) (hx : xs.length ≤ 4096) (w0 : World) (hR : Ro w0 [] (SlA A (u64s xs))) :
    Calls Tryd.prog 113 #[.slice A xs.length c] w0 (Post w0 [] fun v L => ∃ O d, v = .slice O xs.length d ∧ L = [OwnA 24 1 O xs.length d (u64s xs)]) := by
  refine Calls.of (L := []) (n := 8) (rs := [.tmp 2]) Tryd.func113 rfl rfl rfl (Nat.le_of_ble_eq_true rfl) (Sat.nil _) ?_
  refine TC.ownNil 24 1 ?_
  refine TC.seq ?_
  refine TC.region ?_
  refine S.q rfl rfl (Qt.assign (by conv => lhs; whnf)) ?_
  refine S.nil ?_
  refine TC.seq ?_
  refine TC.seq ?_
  refine TC.region ?_
  refine S.q rfl rfl (Qt.move (by conv => lhs; whnf)) ?_
  refine S.q rfl rfl (Qt.eqsl Tryd.underlying71 rfl) ?_
  refine S.nil ?_
  refine TC.ifb rfl (fun hnl => ?_) (fun hnl => ?_)
  · refine TC.seq ?_
    refine TC.region ?_
    refine S.q rfl rfl (Qt.assign (by conv => lhs; whnf)) ?_
    refine S.nil ?_
    refine TC.ret ?_
    refine finQ.ret (RVs.tmp (by conv => lhs; whnf) RVs.nil) (Sub.refl _) ?_
    obtain rfl : A = none := Option.isNone_iff_eq_none.1 hnl
    have h := SlA.none_nil hR.1
    obtain rfl : xs = [] := by cases xs with
      | nil => rfl
      | cons x xs => cases h
    exact ⟨none, 0, rfl, rfl⟩
  · refine TC.skip ?_
    refine TC.seq ?_
    refine TC.region ?_
    refine S.opS rfl rfl (OpV.slice0 Tryd.underlying71 ⟨_, Tryd.elem24⟩ (fun g5 => ?_))
    refine S.q rfl rfl (Qt.move (by conv => lhs; whnf)) ?_
    refine S.opS rfl rfl (OpV.app0 (bytes := 8) (news := u64s xs) Tryd.underlying71 Tryd.elem24 rfl rfl (Has.ro hR) (by rw [u64s_len, Nat.mul_one]) (u64s_one _) (by simp only [maxLen]; omega) (by omega) (fun O d => ?_))
    refine S.q rfl rfl (Qt.assign (by conv => lhs; whnf)) ?_
    refine S.nil ?_
    refine TC.ret ?_
    refine finQ.ret (RVs.tmp (by conv => lhs; whnf) RVs.nil) (Sub.keep _ (Sub.drop _ (Sub.nil _))) ?_
    exact ⟨O, d, by rw [Nat.zero_add]; rfl, by rw [Nat.zero_add, List.nil_append]⟩
set_option maxHeartbeats 400000 in
theorem wide_walk (A : Option Addr) (c : Nat) (B : Option Addr) (d : Nat) (xs : List Nat) (hx : xs.length ≤ 4096) (w0 : World) (hR : Ro w0 [] (SlA A (u64s xs))) (hB : Ro w0 [] (SlA B (u64s xs))) :
    Calls Tryd.prog 71 #[.slice A xs.length c, .slice B xs.length d] w0 (Post w0 [] fun v L => v = .bool true ∧ L = []) := by
  refine Calls.of (L := []) (n := 26) (rs := [.tmp 4]) Tryd.func71 rfl rfl rfl (Nat.le_of_ble_eq_true rfl) (Sat.nil _) ?_
  refine TC.seq ?_
  refine TC.region ?_
  refine S.q rfl rfl (Qt.assign (by conv => lhs; whnf)) ?_
  refine S.nil ?_
  refine TC.seq ?_
  refine TC.seq ?_
  refine TC.region ?_
  refine S.q rfl rfl (Qt.move (by conv => lhs; whnf)) ?_
  refine S.q rfl rfl (Qt.len_slice Tryd.underlying71 rfl) ?_
  refine S.q rfl rfl (Qt.move (by conv => lhs; whnf)) ?_
  refine S.q rfl rfl (Qt.len_slice Tryd.underlying71 rfl) ?_
  refine S.q rfl rfl (Qt.dF (Qt.ne rfl rfl) (fun h => h rfl)) ?_
  refine S.nil ?_
  refine S.if_f rfl ?_
  refine TC.skip ?_
  refine TC.seq ?_
  refine TC.seq ?_
  refine TC.region ?_
  refine S.q rfl rfl (Qt.move (by conv => lhs; whnf)) ?_
  refine S.q rfl rfl (Qt.len_slice Tryd.underlying71 rfl) ?_
  refine S.q rfl rfl (Qt.move (by conv => lhs; whnf)) ?_
  refine S.nil ?_
  refine TC.block ?_
  refine TC.loop (γ := Nat) [14, 15, 5, 16, 17, 18, 19, 20, 21, 22, 23, 24, 4, 25, 13] (fun k => [(13, .int .i64 (k : Int))]) (fun _ => _) (fun k => k ≤ xs.length) (fun k => xs.length - k) (0)
    (Nat.zero_le _) ⟨Out.refl _ _, (List.forall_mem_cons.2 ⟨rfl, (fun _ h => nomatch h)⟩)⟩ (Sub.refl _) ?_
  rintro k u hk
  refine TC.seq ?_
  refine TC.region ?_
  refine S.dec rfl rfl (Qt.lt rfl rfl) (fun h14 => ?_) (fun h14 => ?_)
  · refine S.nil ?_
    refine TC.seq ?_
    refine S.if_t rfl ?_
    refine TC.skip ?_
    refine TC.seq ?_
    refine TC.block ?_
    refine TC.seq ?_
    refine TC.region ?_
    refine S.q rfl rfl (Qt.move (by conv => lhs; whnf)) ?_
    refine S.q rfl rfl (Qt.assign (by conv => lhs; whnf)) ?_
    refine S.nil ?_
    refine TC.seq ?_
    refine S.draw ([], []) Tryd.mixed (Sub.refl _) ?_
    refine D.qX (k := 0) rfl (by kernel_rfl) (by kernel_rfl) (by kernel_rfl) rfl rfl (Qt.move (by conv => lhs; whnf)) ?_
    refine D.qX (k := 1) rfl (by kernel_rfl) (by kernel_rfl) (by kernel_rfl) rfl rfl (Qt.move (by conv => lhs; whnf)) ?_
    refine D.qX (k := 2) rfl (by kernel_rfl) (by kernel_rfl) (by kernel_rfl) rfl rfl (Qt.index Tryd.underlying71 Tryd.cells24 rfl rfl (by omega) (Has.ro hR) (by rw [u64s_len]; omega)) ?_
    refine D.qX (k := 3) rfl (by kernel_rfl) (by kernel_rfl) (by kernel_rfl) rfl rfl (Qt.load rfl (Ld.sl (v := .int .u64 ((xs.getD (k) 0 : Nat) : Int)) (Has.ro hR) Tryd.one24 (u64s_get1 (by omega)))) ?_
    refine D.qX (k := 4) rfl (by kernel_rfl) (by kernel_rfl) (by kernel_rfl) rfl rfl (Qt.move (by conv => lhs; whnf)) ?_
    refine D.qX (k := 5) rfl (by kernel_rfl) (by kernel_rfl) (by kernel_rfl) rfl rfl (Qt.move (by conv => lhs; whnf)) ?_
    refine D.qX (k := 6) rfl (by kernel_rfl) (by kernel_rfl) (by kernel_rfl) rfl rfl (Qt.index Tryd.underlying71 Tryd.cells24 rfl rfl (by omega) (Has.ro hB) (by rw [u64s_len]; omega)) ?_
    refine D.qX (k := 7) rfl (by kernel_rfl) (by kernel_rfl) (by kernel_rfl) rfl rfl (Qt.load rfl (Ld.sl (v := .int .u64 ((xs.getD k 0 : Nat) : Int)) (Has.ro hB) Tryd.one24 (u64s_get1 (by omega)))) ?_
    refine D.qX (k := 8) rfl (by kernel_rfl) (by kernel_rfl) (by kernel_rfl) rfl rfl (Qt.dF (Qt.ne rfl rfl) (fun h => h rfl)) ?_
    refine D.done (Sub.refl _) (by kernel_rfl) ?_
    refine S.if_f rfl ?_
    refine TC.skip ?_
    refine TC.region ?_
    refine S.q rfl rfl (Qt.add (b := 1) rfl rfl (by simp only [kmax]; omega)) ?_
    refine S.q rfl rfl (Qt.move (by conv => lhs; whnf)) ?_
    refine S.nil ?_
    refine ⟨k + 1, ?_, ?_, ⟨?_, (List.forall_mem_cons.2 ⟨rfl, (fun _ h => nomatch h)⟩)⟩, Sub.refl _⟩
    · show _ ≤ _; omega
    · show _ < _; dsimp only; omega
    repeat (first | exact Out.refl _ _ | refine Out.put rfl ?_ | refine Out.puts rfl ?_ | refine Out.scr ?_ | refine Out.scr' rfl ?_)
  · refine S.nil ?_
    refine TC.seq ?_
    refine S.if_f rfl ?_
    refine TC.exit ?_
    refine TC.seq ?_
    refine TC.region ?_
    refine S.q rfl rfl (Qt.assign (by conv => lhs; whnf)) ?_
    refine S.nil ?_
    refine TC.ret ?_
    refine finQ.ret (RVs.tmp (by conv => lhs; whnf) RVs.nil) (Sub.nil _) ?_
    exact ⟨rfl, rfl⟩
theorem wide_R (A : Option Addr) (c : Nat) (B : Option Addr) (d : Nat) (xs : List Nat) (hx : xs.length ≤ 4096) (w0 : World) (hR : Ro w0 [] (SlA A (u64s xs))) (hB : Ro w0 [] (SlA B (u64s xs))) : Calls Tryd.prog 71 #[.slice A xs.length c, .slice B xs.length d] w0 (Ret w0 (.bool true)) := Calls.ret (wide_walk A c B d xs hx w0 hR hB)

set_option maxHeartbeats 400000 in
theorem mkw_walk (E : Nat → H32) (tb mb height : Nat) (ms : Tm) (hh : height ≤ 32) (A : Option Addr) (c : Nat) (xs : List Nat) (hc : xs.length ≤ c) (hi : idxOk height xs) (w0 : World) (hB : Ro w0 [] (Blk tb 150 (treeCs E height mb))) (hM : Ro w0 [] (MapA mb encAt hv (ms))) (hlow : ∀ x ∈ xs, x < 18446744073709551616) (hR : Ro w0 [] (SlA A (u64s xs))) :
    Calls Tryd.prog 70 #[.pointer (some ⟨tb, 0, none⟩), .slice A xs.length c] w0 (Post w0 [] fun v L => ∃ I i A1 a1 B1 b1, v = .tuple #[.agg #[.slice I xs.length i, .slice A1 xs.length a1, .slice B1 (spots height xs 0).length b1], .nilIface] ∧ L = [OwnA 24 1 I xs.length i (u64s xs), OwnA 23 32 A1 xs.length a1 (hcs (xs.map (fun x => getT E ms (0, x)))), OwnA 23 32 B1 (spots height xs 0).length b1 (hcs ((spots height xs 0).map (fun a => getT E ms a)))]) := by
  refine Calls.of (L := []) (n := 34) (rs := [.cell 4 88, .tmp 5]) Tryd.func70 rfl rfl rfl (Nat.le_of_ble_eq_true rfl) (Sat.nil _) ?_
  refine TC.seq ?_
  refine TC.region ?_
  refine S.opS rfl rfl (OpV.alloc Tryd.zero88 (fun b4 => ?_))
  refine S.q rfl rfl (Qt.assign (by conv => lhs; whnf)) ?_
  refine S.nil ?_
  refine TC.seq ?_
  refine TC.region ?_
  refine S.q rfl rfl (Qt.move (by conv => lhs; whnf)) ?_
  refine S.q rfl rfl (Qt.move (by conv => lhs; whnf)) ?_
  refine S.opS rfl rfl (OpV.con (Pre := []) (R := _) Tryd.ent63 rfl (List.Perm.refl _) (fun w hw => make10_walk E tb mb height ms hh A c xs hc hi w (Rd.ro hB w hw) (Rd.ro hM w hw) hlow (Rd.ro hR w hw)) ?_)
  rintro v L' ⟨B1, b1, rfl, rfl⟩
  refine S.q rfl rfl (Qt.move (by conv => lhs; whnf)) ?_
  refine S.q rfl rfl (Qt.extract rfl rfl) ?_
  refine S.q rfl rfl (Qt.extract rfl rfl) ?_
  refine S.q rfl rfl (Qt.assign (by conv => lhs; whnf)) ?_
  refine S.q rfl rfl (Qt.assign (by conv => lhs; whnf)) ?_
  refine S.nil ?_
  refine TC.seq ?_
  refine TC.seq ?_
  refine TC.region ?_
  refine S.q rfl rfl (Qt.move (by conv => lhs; whnf)) ?_
  refine S.q rfl rfl (Qt.nenil_nil Tryd.underlying27 rfl) ?_
  refine S.nil ?_
  refine S.if_f rfl ?_
  refine TC.skip ?_
  refine TC.seq ?_
  refine TC.region ?_
  refine S.q rfl rfl (Qt.move (by conv => lhs; whnf)) ?_
  refine S.q rfl rfl (Qt.move (by conv => lhs; whnf)) ?_
  refine S.opS rfl rfl (OpV.con (Pre := []) (R := _) Tryd.ent64 rfl (List.Perm.refl _) (fun w hw => leaves10_walk E tb mb height ms hh A c xs hi w (Rd.ro hB w hw) (Rd.ro hM w hw) hlow (Rd.ro hR w hw)) ?_)
  rintro v L' ⟨A1, a1, rfl, rfl⟩
  refine S.q rfl rfl (Qt.move (by conv => lhs; whnf)) ?_
  refine S.q rfl rfl (Qt.extract rfl rfl) ?_
  refine S.q rfl rfl (Qt.extract rfl rfl) ?_
  refine S.q rfl rfl (Qt.assign (by conv => lhs; whnf)) ?_
  refine S.q rfl rfl (Qt.assign (by conv => lhs; whnf)) ?_
  refine S.nil ?_
  refine TC.seq ?_
  refine TC.seq ?_
  refine TC.region ?_
  refine S.q rfl rfl (Qt.move (by conv => lhs; whnf)) ?_
  refine S.q rfl rfl (Qt.nenil_nil Tryd.underlying27 rfl) ?_
  refine S.nil ?_
  refine S.if_f rfl ?_
  refine TC.skip ?_
  refine TC.seq ?_
  refine TC.region ?_
  refine S.q rfl rfl (Qt.move (by conv => lhs; whnf)) ?_
  refine S.opS rfl rfl (OpV.con (Pre := []) (R := _) Tryd.ent113 rfl (List.Perm.refl _) (fun w hw => cloneu_walk A c xs (by have := hi.2.1; omega) w (Rd.ro hR w hw)) ?_)
  rintro v L' ⟨I, i, rfl, rfl⟩
  refine S.q rfl rfl (Qt.move (by conv => lhs; whnf)) ?_
  refine S.q rfl rfl (Qt.move (by conv => lhs; whnf)) ?_
  refine S.q rfl rfl (Qt.as (Qt.buildS (vs := [.slice I xs.length i, .slice A1 xs.length a1, .slice B1 (spots height xs 0).length b1]) (pls := #[(0, 1), (1, 1), (2, 1)]) Tryd.underlying88 (fun w => by kernel_rfl) Tryd.zero88 rfl ⟨rfl, rfl, rfl, trivial⟩ rfl) (show _ = Value.agg #[.slice I xs.length i, .slice A1 xs.length a1, .slice B1 (spots height xs 0).length b1] from rfl)) ?_
  refine S.opN rfl (OpV.storeV3 rfl (by conv => lhs; whnf) (by exact Tryd.cells88) (by rfl) (by rfl) ?_)
  refine S.q rfl rfl (Qt.assign (by conv => lhs; whnf)) ?_
  refine S.nil ?_
  refine TC.ret ?_
  refine finQ.ret (RVs.cell rfl (Ld.all (Has.at 3 rfl) Tryd.row88 (Tryd.cells88)) (RVs.tmp (by conv => lhs; whnf) RVs.nil)) (Sub.keep _ (Sub.keep _ (Sub.keep _ (Sub.drop _ (Sub.nil []))))) ?_
  exact ⟨I, i, A1, a1, B1, b1, rfl, rfl⟩
set_option maxHeartbeats 400000 in
theorem mkw_walkF (E : Nat → H32) (tb mb height : Nat) (ms : Tm) (hh : height ≤ 32) (A : Option Addr) (c : Nat) (xs : List Nat) (hi : ¬ idxOk height xs) (w0 : World) (hB : Ro w0 [] (Blk tb 150 (treeCs E height mb))) (hM : Ro w0 [] (MapA mb encAt hv (ms))) (hlow : ∀ x ∈ xs, x < 18446744073709551616) (hR : Ro w0 [] (SlA A (u64s xs))) :
    Calls Tryd.prog 70 #[.pointer (some ⟨tb, 0, none⟩), .slice A xs.length c] w0 (Post w0 [] fun v L => v = .tuple #[.agg #[.slice none 0 0, .slice none 0 0, .slice none 0 0], .iface 58 (.int .i64 1)] ∧ L = []) := by
  refine Calls.of (L := []) (n := 34) (rs := [.cell 4 88, .tmp 5]) Tryd.func70 rfl rfl rfl (Nat.le_of_ble_eq_true rfl) (Sat.nil _) ?_
  refine TC.seq ?_
  refine TC.region ?_
  refine S.opS rfl rfl (OpV.alloc Tryd.zero88 (fun b4 => ?_))
  refine S.q rfl rfl (Qt.assign (by conv => lhs; whnf)) ?_
  refine S.nil ?_
  refine TC.seq ?_
  refine TC.region ?_
  refine S.q rfl rfl (Qt.move (by conv => lhs; whnf)) ?_
  refine S.q rfl rfl (Qt.move (by conv => lhs; whnf)) ?_
  refine S.opS rfl rfl (OpV.con0 Tryd.ent63 rfl (fun w hw => Calls.ret (make10_walkF E tb mb height ms hh A c xs hi w (Rd.ro hB w hw) hlow (Rd.ro hR w hw))) ?_)
  refine S.q rfl rfl (Qt.move (by conv => lhs; whnf)) ?_
  refine S.q rfl rfl (Qt.extract rfl rfl) ?_
  refine S.q rfl rfl (Qt.extract rfl rfl) ?_
  refine S.q rfl rfl (Qt.assign (by conv => lhs; whnf)) ?_
  refine S.q rfl rfl (Qt.assign (by conv => lhs; whnf)) ?_
  refine S.nil ?_
  refine TC.seq ?_
  refine TC.seq ?_
  refine TC.region ?_
  refine S.q rfl rfl (Qt.move (by conv => lhs; whnf)) ?_
  refine S.q rfl rfl (Qt.nenil_iface Tryd.underlying27 rfl) ?_
  refine S.nil ?_
  refine S.if_t rfl ?_
  refine TC.seq ?_
  refine TC.region ?_
  refine S.q rfl rfl (Qt.build (v := .agg #[.slice none 0 0, .slice none 0 0, .slice none 0 0]) rfl (fun _ => by kernel_rfl)) ?_
  refine S.q rfl rfl (Qt.move (by conv => lhs; whnf)) ?_
  refine S.opN rfl (OpV.storeV0 rfl (by conv => lhs; whnf) (by exact Tryd.cells88) (by rfl) (by rfl) ?_)
  refine S.q rfl rfl (Qt.assign (by conv => lhs; whnf)) ?_
  refine S.nil ?_
  refine TC.ret ?_
  refine finQ.ret (RVs.cell rfl (Ld.all (Has.at 0 rfl) Tryd.row88 (Tryd.cells88)) (RVs.tmp (by conv => lhs; whnf) RVs.nil)) (Sub.nil _) ?_
  exact ⟨rfl, rfl⟩
set_option maxHeartbeats 400000 in
theorem mkw_walkN (A : Option Addr) (c : Nat) (xs : List Nat) (w0 : World) :
    Calls Tryd.prog 70 #[.pointer none, .slice A xs.length c] w0 (Post w0 [] fun v L => v = .tuple #[.agg #[.slice none 0 0, .slice none 0 0, .slice none 0 0], .iface 58 (.int .i64 11)] ∧ L = []) := by
  refine Calls.of (L := []) (n := 34) (rs := [.cell 4 88, .tmp 5]) Tryd.func70 rfl rfl rfl (Nat.le_of_ble_eq_true rfl) (Sat.nil _) ?_
  refine TC.seq ?_
  refine TC.region ?_
  refine S.opS rfl rfl (OpV.alloc Tryd.zero88 (fun b4 => ?_))
  refine S.q rfl rfl (Qt.assign (by conv => lhs; whnf)) ?_
  refine S.nil ?_
  refine TC.seq ?_
  refine TC.region ?_
  refine S.q rfl rfl (Qt.move (by conv => lhs; whnf)) ?_
  refine S.q rfl rfl (Qt.move (by conv => lhs; whnf)) ?_
  refine S.opS rfl rfl (OpV.con0 Tryd.ent63 rfl (fun w hw => Calls.ret (make10_walkN A c xs w)) ?_)
  refine S.q rfl rfl (Qt.move (by conv => lhs; whnf)) ?_
  refine S.q rfl rfl (Qt.extract rfl rfl) ?_
  refine S.q rfl rfl (Qt.extract rfl rfl) ?_
  refine S.q rfl rfl (Qt.assign (by conv => lhs; whnf)) ?_
  refine S.q rfl rfl (Qt.assign (by conv => lhs; whnf)) ?_
  refine S.nil ?_
  refine TC.seq ?_
  refine TC.seq ?_
  refine TC.region ?_
  refine S.q rfl rfl (Qt.move (by conv => lhs; whnf)) ?_
  refine S.q rfl rfl (Qt.nenil_iface Tryd.underlying27 rfl) ?_
  refine S.nil ?_
  refine S.if_t rfl ?_
  refine TC.seq ?_
  refine TC.region ?_
  refine S.q rfl rfl (Qt.build (v := .agg #[.slice none 0 0, .slice none 0 0, .slice none 0 0]) rfl (fun _ => by kernel_rfl)) ?_
  refine S.q rfl rfl (Qt.move (by conv => lhs; whnf)) ?_
  refine S.opN rfl (OpV.storeV0 rfl (by conv => lhs; whnf) (by exact Tryd.cells88) (by rfl) (by rfl) ?_)
  refine S.q rfl rfl (Qt.assign (by conv => lhs; whnf)) ?_
  refine S.nil ?_
  refine TC.ret ?_
  refine finQ.ret (RVs.cell rfl (Ld.all (Has.at 0 rfl) Tryd.row88 (Tryd.cells88)) (RVs.tmp (by conv => lhs; whnf) RVs.nil)) (Sub.nil _) ?_
  exact ⟨rfl, rfl⟩
set_option maxHeartbeats 400000 in
theorem mkc_walk (E : Nat → H32) (tb mb height : Nat) (ms : Tm) (hh : height ≤ 32) (b : Nat) (h1 : 1 ≤ b) (hb : b - 1 < 2 ^ height) (w0 : World) (hB : Ro w0 [] (Blk tb 150 (treeCs E height mb))) (hM : Ro w0 [] (MapA mb encAt hv (ms))) :
    Calls Tryd.prog 72 #[.pointer (some ⟨tb, 0, none⟩), .int .u64 (b : Int)] w0 (Post w0 [] fun v L => ∃ O d, v = .tuple #[.agg (hvl (getT E ms (0, b - 1)) ++ [Value.slice O height d]).toArray, .nilIface] ∧ L = [OwnA 23 32 O height d (hcs (pathT E ms height (b - 1)))]) := by
  refine Calls.of (L := []) (n := 34) (rs := [.cell 4 64, .tmp 5]) Tryd.func72 rfl rfl rfl (Nat.le_of_ble_eq_true rfl) (Sat.nil _) ?_
  have hb32 := pow32 hh hb
  refine TC.seq ?_
  refine TC.region ?_
  refine S.opS rfl rfl (OpV.alloc Tryd.zero64 (fun b4 => ?_))
  refine S.q rfl rfl (Qt.assign (by conv => lhs; whnf)) ?_
  refine S.nil ?_
  refine TC.seq ?_
  refine TC.region ?_
  refine S.q rfl rfl (Qt.move (by conv => lhs; whnf)) ?_
  refine S.q rfl rfl (Qt.move (by conv => lhs; whnf)) ?_
  refine S.q rfl rfl (Qt.sub (b := 1) rfl rfl (by omega) (by simp only [kmax]; omega)) ?_
  refine S.opS rfl rfl (OpV.con0 Tryd.ent30 rfl (fun w hw => leaf_R E tb mb height ms (b - 1) hh hb w (Rd.ro hB w hw) (Rd.ro hM w hw)) ?_)
  refine S.q rfl rfl (Qt.move (by conv => lhs; whnf)) ?_
  refine S.q rfl rfl (Qt.extract rfl rfl) ?_
  refine S.q rfl rfl (Qt.extract rfl rfl) ?_
  refine S.opS rfl rfl (OpV.alloc Tryd.zero23 (fun b6 => ?_))
  refine S.opN rfl (OpV.storeV0 (v := hv (_)) rfl rfl (hv_size Tryd.cells23) (hv_all _) (hv_len _) ?_)
  refine S.q rfl rfl (Qt.assign (by conv => lhs; whnf)) ?_
  refine S.nil ?_
  refine TC.seq ?_
  refine TC.seq ?_
  refine TC.region ?_
  refine S.q rfl rfl (Qt.move (by conv => lhs; whnf)) ?_
  refine S.q rfl rfl (Qt.nenil_nil Tryd.underlying27 rfl) ?_
  refine S.nil ?_
  refine S.if_f rfl ?_
  refine TC.skip ?_
  refine TC.seq ?_
  refine TC.region ?_
  refine S.q rfl rfl (Qt.move (by conv => lhs; whnf)) ?_
  refine S.q rfl rfl (Qt.move (by conv => lhs; whnf)) ?_
  refine S.q rfl rfl (Qt.sub (b := 1) rfl rfl (by omega) (by simp only [kmax]; omega)) ?_
  refine S.opS rfl rfl (OpV.con (Pre := []) (R := _) Tryd.ent29 rfl (List.Perm.refl _) (fun w hw => path_walk E tb mb height ms (b - 1) hh hb w (Rd.ro hB w hw) (Rd.ro hM w hw)) ?_)
  rintro v L' ⟨O, d, rfl, rfl⟩
  refine S.q rfl rfl (Qt.move (by conv => lhs; whnf)) ?_
  refine S.q rfl rfl (Qt.extract rfl rfl) ?_
  refine S.q rfl rfl (Qt.extract rfl rfl) ?_
  refine S.q rfl rfl (Qt.assign (by conv => lhs; whnf)) ?_
  refine S.q rfl rfl (Qt.assign (by conv => lhs; whnf)) ?_
  refine S.nil ?_
  refine TC.seq ?_
  refine TC.seq ?_
  refine TC.region ?_
  refine S.q rfl rfl (Qt.move (by conv => lhs; whnf)) ?_
  refine S.q rfl rfl (Qt.nenil_nil Tryd.underlying27 rfl) ?_
  refine S.nil ?_
  refine S.if_f rfl ?_
  refine TC.skip ?_
  refine TC.seq ?_
  refine TC.region ?_
  refine S.q rfl rfl (Qt.load rfl (Ld.hash1 (x := getT E ms (0, b - 1)) (Has.at 1 rfl) Tryd.row23 Tryd.cells23)) ?_
  refine S.q rfl rfl (Qt.move (by conv => lhs; whnf)) ?_
  refine S.q rfl rfl (Qt.as (Qt.buildS (vs := [hv (getT E ms (0, b - 1)), .slice O height d]) (pls := #[(0, 32), (32, 1)]) Tryd.underlying64 (fun w => by kernel_rfl) Tryd.zero64 rfl ⟨(by show some (0, 32) = some (0, _); rw [hv_len]), (by show some (32, 1) = some (0 + (vl (hv (getT E ms (0, b - 1)))).length, _); rw [hv_len]; rfl), trivial⟩ (by show 33 = _; rw [List.flatMap_cons, List.flatMap_singleton, List.length_append, hv_len]; rfl)) (show _ = Value.agg (hvl (getT E ms (0, b - 1)) ++ [Value.slice O height d]).toArray by rw [List.flatMap_cons, List.flatMap_singleton, vl_hv]; rfl)) ?_
  refine S.opN rfl (OpV.storeV2 (v := .agg (hvl (getT E ms (0, b - 1)) ++ [Value.slice O height d]).toArray) rfl rfl (by rw [vl_agg, cut_size]; exact Tryd.cells64) (cut_one _ _ _ _) (by rw [vl_agg, cut_size]; rfl) ?_)
  refine S.q rfl rfl (Qt.assign (by conv => lhs; whnf)) ?_
  refine S.nil ?_
  refine TC.ret ?_
  refine finQ.ret (RVs.cell rfl (Ld.all (Has.at 2 rfl) Tryd.row64 (by rw [vl_agg, cut_size]; exact Tryd.cells64)) (RVs.tmp (by conv => lhs; whnf) RVs.nil)) (Sub.keep _ (Sub.drop _ (Sub.drop _ (Sub.nil [])))) ?_
  exact ⟨O, d, rfl, rfl⟩
set_option maxHeartbeats 400000 in
theorem mkc_walkF (E : Nat → H32) (tb mb height : Nat) (ms : Tm) (hh : height ≤ 32) (b : Nat) (hb64 : b < 18446744073709551616) (h1 : 1 ≤ b) (hb : ¬ b - 1 < 2 ^ height) (w0 : World) (hB : Ro w0 [] (Blk tb 150 (treeCs E height mb))) (hM : Ro w0 [] (MapA mb encAt hv (ms))) :
    Calls Tryd.prog 72 #[.pointer (some ⟨tb, 0, none⟩), .int .u64 (b : Int)] w0 (Post w0 [] fun v L => v = .tuple #[.agg (hvl (zeroH) ++ [Value.slice none 0 0]).toArray, .iface 58 (.int .i64 1)] ∧ L = []) := by
  refine Calls.of (L := []) (n := 34) (rs := [.cell 4 64, .tmp 5]) Tryd.func72 rfl rfl rfl (Nat.le_of_ble_eq_true rfl) (Sat.nil _) ?_
  refine TC.seq ?_
  refine TC.region ?_
  refine S.opS rfl rfl (OpV.alloc Tryd.zero64 (fun b4 => ?_))
  refine S.q rfl rfl (Qt.assign (by conv => lhs; whnf)) ?_
  refine S.nil ?_
  refine TC.seq ?_
  refine TC.region ?_
  refine S.q rfl rfl (Qt.move (by conv => lhs; whnf)) ?_
  refine S.q rfl rfl (Qt.move (by conv => lhs; whnf)) ?_
  refine S.q rfl rfl (Qt.sub (b := 1) rfl rfl (by omega) (by simp only [kmax]; omega)) ?_
  refine S.opS rfl rfl (OpV.con0 Tryd.ent30 rfl (fun w hw => leafF_R E tb mb height (b - 1) hh (by omega) hb w (Rd.ro hB w hw)) ?_)
  refine S.q rfl rfl (Qt.move (by conv => lhs; whnf)) ?_
  refine S.q rfl rfl (Qt.extract rfl rfl) ?_
  refine S.q rfl rfl (Qt.extract rfl rfl) ?_
  refine S.opS rfl rfl (OpV.alloc Tryd.zero23 (fun b6 => ?_))
  refine S.opN rfl (OpV.storeV0 (v := hv (_)) rfl rfl (hv_size Tryd.cells23) (hv_all _) (hv_len _) ?_)
  refine S.q rfl rfl (Qt.assign (by conv => lhs; whnf)) ?_
  refine S.nil ?_
  refine TC.seq ?_
  refine TC.seq ?_
  refine TC.region ?_
  refine S.q rfl rfl (Qt.move (by conv => lhs; whnf)) ?_
  refine S.q rfl rfl (Qt.nenil_iface Tryd.underlying27 rfl) ?_
  refine S.nil ?_
  refine S.if_t rfl ?_
  refine TC.seq ?_
  refine TC.region ?_
  refine S.q rfl rfl (Qt.build (v := .agg (hvl (zeroH) ++ [Value.slice none 0 0]).toArray) rfl (fun _ => by kernel_rfl)) ?_
  refine S.q rfl rfl (Qt.move (by conv => lhs; whnf)) ?_
  refine S.opN rfl (OpV.storeV1 (v := .agg (hvl (zeroH) ++ [Value.slice none 0 0]).toArray) rfl rfl (by rw [vl_agg, cut_size]; exact Tryd.cells64) (cut_one _ _ _ _) (by rw [vl_agg, cut_size]; rfl) ?_)
  refine S.q rfl rfl (Qt.assign (by conv => lhs; whnf)) ?_
  refine S.nil ?_
  refine TC.ret ?_
  refine finQ.ret (RVs.cell rfl (Ld.all (Has.at 1 rfl) Tryd.row64 (by rw [vl_agg, cut_size]; exact Tryd.cells64)) (RVs.tmp (by conv => lhs; whnf) RVs.nil)) (Sub.nil _) ?_
  exact ⟨rfl, rfl⟩
set_option maxHeartbeats 400000 in
theorem mkc_walk0 (E : Nat → H32) (tb mb height : Nat) (ms : Tm) (hh : height ≤ 32) (b : Nat) (hb0 : b = 0) (w0 : World) (hB : Ro w0 [] (Blk tb 150 (treeCs E height mb))) (hM : Ro w0 [] (MapA mb encAt hv (ms))) :
    Calls Tryd.prog 72 #[.pointer (some ⟨tb, 0, none⟩), .int .u64 (b : Int)] w0 (Post w0 [] fun v L => v = .tuple #[.agg (hvl (zeroH) ++ [Value.slice none 0 0]).toArray, .iface 58 (.int .i64 1)] ∧ L = []) := by
  refine Calls.of (L := []) (n := 34) (rs := [.cell 4 64, .tmp 5]) Tryd.func72 rfl rfl rfl (Nat.le_of_ble_eq_true rfl) (Sat.nil _) ?_
  subst hb0
  refine TC.seq ?_
  refine TC.region ?_
  refine S.opS rfl rfl (OpV.alloc Tryd.zero64 (fun b4 => ?_))
  refine S.q rfl rfl (Qt.assign (by conv => lhs; whnf)) ?_
  refine S.nil ?_
  refine TC.seq ?_
  refine TC.region ?_
  refine S.q rfl rfl (Qt.move (by conv => lhs; whnf)) ?_
  refine S.q rfl rfl (Qt.move (by conv => lhs; whnf)) ?_
  refine S.q rfl rfl (Qt.as (Qt.subw rfl rfl) (show _ = Value.int .u64 ((18446744073709551615 : Nat) : Int) from rfl)) ?_
  refine S.opS rfl rfl (OpV.con0 Tryd.ent30 rfl (fun w hw => leafF_R E tb mb height 18446744073709551615 hh (by decide) (fun h => by have := pow32 hh h; omega) w (Rd.ro hB w hw)) ?_)
  refine S.q rfl rfl (Qt.move (by conv => lhs; whnf)) ?_
  refine S.q rfl rfl (Qt.extract rfl rfl) ?_
  refine S.q rfl rfl (Qt.extract rfl rfl) ?_
  refine S.opS rfl rfl (OpV.alloc Tryd.zero23 (fun b6 => ?_))
  refine S.opN rfl (OpV.storeV0 (v := hv (_)) rfl rfl (hv_size Tryd.cells23) (hv_all _) (hv_len _) ?_)
  refine S.q rfl rfl (Qt.assign (by conv => lhs; whnf)) ?_
  refine S.nil ?_
  refine TC.seq ?_
  refine TC.seq ?_
  refine TC.region ?_
  refine S.q rfl rfl (Qt.move (by conv => lhs; whnf)) ?_
  refine S.q rfl rfl (Qt.nenil_iface Tryd.underlying27 rfl) ?_
  refine S.nil ?_
  refine S.if_t rfl ?_
  refine TC.seq ?_
  refine TC.region ?_
  refine S.q rfl rfl (Qt.build (v := .agg (hvl (zeroH) ++ [Value.slice none 0 0]).toArray) rfl (fun _ => by kernel_rfl)) ?_
  refine S.q rfl rfl (Qt.move (by conv => lhs; whnf)) ?_
  refine S.opN rfl (OpV.storeV1 (v := .agg (hvl (zeroH) ++ [Value.slice none 0 0]).toArray) rfl rfl (by rw [vl_agg, cut_size]; exact Tryd.cells64) (cut_one _ _ _ _) (by rw [vl_agg, cut_size]; rfl) ?_)
  refine S.q rfl rfl (Qt.assign (by conv => lhs; whnf)) ?_
  refine S.nil ?_
  refine TC.ret ?_
  refine finQ.ret (RVs.cell rfl (Ld.all (Has.at 1 rfl) Tryd.row64 (by rw [vl_agg, cut_size]; exact Tryd.cells64)) (RVs.tmp (by conv => lhs; whnf) RVs.nil)) (Sub.nil _) ?_
  exact ⟨rfl, rfl⟩
set_option maxHeartbeats 400000 in
theorem mkc_walkN (b : Nat) (h1 : 1 ≤ b) (hb64 : b < 18446744073709551616) (w0 : World) :
    Calls Tryd.prog 72 #[.pointer none, .int .u64 (b : Int)] w0 (Post w0 [] fun v L => v = .tuple #[.agg (hvl (zeroH) ++ [Value.slice none 0 0]).toArray, .iface 58 (.int .i64 11)] ∧ L = []) := by
  refine Calls.of (L := []) (n := 34) (rs := [.cell 4 64, .tmp 5]) Tryd.func72 rfl rfl rfl (Nat.le_of_ble_eq_true rfl) (Sat.nil _) ?_
  refine TC.seq ?_
  refine TC.region ?_
  refine S.opS rfl rfl (OpV.alloc Tryd.zero64 (fun b4 => ?_))
  refine S.q rfl rfl (Qt.assign (by conv => lhs; whnf)) ?_
  refine S.nil ?_
  refine TC.seq ?_
  refine TC.region ?_
  refine S.q rfl rfl (Qt.move (by conv => lhs; whnf)) ?_
  refine S.q rfl rfl (Qt.move (by conv => lhs; whnf)) ?_
  refine S.q rfl rfl (Qt.sub (b := 1) rfl rfl (by omega) (by simp only [kmax]; omega)) ?_
  refine S.opS rfl rfl (OpV.con0 Tryd.ent30 rfl (fun w hw => Calls.ret (leafNil_walk (b - 1) zeroH w)) ?_)
  refine S.q rfl rfl (Qt.move (by conv => lhs; whnf)) ?_
  refine S.q rfl rfl (Qt.extract rfl rfl) ?_
  refine S.q rfl rfl (Qt.extract rfl rfl) ?_
  refine S.opS rfl rfl (OpV.alloc Tryd.zero23 (fun b6 => ?_))
  refine S.opN rfl (OpV.storeV0 (v := hv (_)) rfl rfl (hv_size Tryd.cells23) (hv_all _) (hv_len _) ?_)
  refine S.q rfl rfl (Qt.assign (by conv => lhs; whnf)) ?_
  refine S.nil ?_
  refine TC.seq ?_
  refine TC.seq ?_
  refine TC.region ?_
  refine S.q rfl rfl (Qt.move (by conv => lhs; whnf)) ?_
  refine S.q rfl rfl (Qt.nenil_iface Tryd.underlying27 rfl) ?_
  refine S.nil ?_
  refine S.if_t rfl ?_
  refine TC.seq ?_
  refine TC.region ?_
  refine S.q rfl rfl (Qt.build (v := .agg (hvl (zeroH) ++ [Value.slice none 0 0]).toArray) rfl (fun _ => by kernel_rfl)) ?_
  refine S.q rfl rfl (Qt.move (by conv => lhs; whnf)) ?_
  refine S.opN rfl (OpV.storeV1 (v := .agg (hvl (zeroH) ++ [Value.slice none 0 0]).toArray) rfl rfl (by rw [vl_agg, cut_size]; exact Tryd.cells64) (cut_one _ _ _ _) (by rw [vl_agg, cut_size]; rfl) ?_)
  refine S.q rfl rfl (Qt.assign (by conv => lhs; whnf)) ?_
  refine S.nil ?_
  refine TC.ret ?_
  refine finQ.ret (RVs.cell rfl (Ld.all (Has.at 1 rfl) Tryd.row64 (by rw [vl_agg, cut_size]; exact Tryd.cells64)) (RVs.tmp (by conv => lhs; whnf) RVs.nil)) (Sub.nil _) ?_
  exact ⟨rfl, rfl⟩
set_option maxHeartbeats 400000 in
theorem hashes_walkB (A : Option Addr) (c : Nat) (B : Option Addr) (d : Nat) (xs : List H32) (hx : xs.length ≤ 16384) (w0 : World) (hA : Ro w0 [] (SlA A (hcs xs))) (hB : Ro w0 [] (SlA B (hcs xs))) :
    Calls Tryd.prog 37 #[.slice A xs.length c, .slice B xs.length d] w0 (Post w0 [] fun v L => v = .bool true ∧ L = []) := by
  refine Calls.of (L := []) (n := 26) (rs := [.tmp 4]) Tryd.func37 rfl rfl rfl (Nat.le_of_ble_eq_true rfl) (Sat.nil _) ?_
  refine TC.seq ?_
  refine TC.region ?_
  refine S.q rfl rfl (Qt.assign (by conv => lhs; whnf)) ?_
  refine S.nil ?_
  refine TC.seq ?_
  refine TC.seq ?_
  refine TC.region ?_
  refine S.q rfl rfl (Qt.move (by conv => lhs; whnf)) ?_
  refine S.q rfl rfl (Qt.len_slice Tryd.underlying44 rfl) ?_
  refine S.q rfl rfl (Qt.move (by conv => lhs; whnf)) ?_
  refine S.q rfl rfl (Qt.len_slice Tryd.underlying44 rfl) ?_
  refine S.q rfl rfl (Qt.dF (Qt.ne rfl rfl) (fun h => h rfl)) ?_
  refine S.nil ?_
  refine S.if_f rfl ?_
  refine TC.skip ?_
  refine TC.seq ?_
  refine TC.seq ?_
  refine TC.region ?_
  refine S.q rfl rfl (Qt.move (by conv => lhs; whnf)) ?_
  refine S.q rfl rfl (Qt.len_slice Tryd.underlying44 rfl) ?_
  refine S.q rfl rfl (Qt.move (by conv => lhs; whnf)) ?_
  refine S.nil ?_
  refine TC.block ?_
  refine TC.loop (γ := Nat) [14, 15, 5, 16, 17, 18, 19, 20, 21, 22, 23, 24, 4, 25, 13] (fun k => [(13, .int .i64 (k : Int))]) (fun _ => _) (fun k => k ≤ xs.length) (fun k => xs.length - k) (0)
    (Nat.zero_le _) ⟨Out.refl _ _, (List.forall_mem_cons.2 ⟨rfl, (fun _ h => nomatch h)⟩)⟩ (Sub.refl _) ?_
  rintro k u hk
  refine TC.seq ?_
  refine TC.region ?_
  refine S.dec rfl rfl (Qt.lt rfl rfl) (fun h14 => ?_) (fun h14 => ?_)
  · refine S.nil ?_
    refine TC.seq ?_
    refine S.if_t rfl ?_
    refine TC.skip ?_
    refine TC.seq ?_
    refine TC.block ?_
    refine TC.seq ?_
    refine TC.region ?_
    refine S.q rfl rfl (Qt.move (by conv => lhs; whnf)) ?_
    refine S.q rfl rfl (Qt.assign (by conv => lhs; whnf)) ?_
    refine S.nil ?_
    refine TC.seq ?_
    refine S.draw ([], []) Tryd.mixed (Sub.refl _) ?_
    refine D.qX (k := 0) rfl (by kernel_rfl) (by kernel_rfl) (by kernel_rfl) rfl rfl (Qt.move (by conv => lhs; whnf)) ?_
    refine D.qX (k := 1) rfl (by kernel_rfl) (by kernel_rfl) (by kernel_rfl) rfl rfl (Qt.move (by conv => lhs; whnf)) ?_
    refine D.qX (k := 2) rfl (by kernel_rfl) (by kernel_rfl) (by kernel_rfl) rfl rfl (Qt.index Tryd.underlying44 Tryd.cells23 rfl rfl (by omega) (Has.ro hA) (by rw [hcs_length]; omega)) ?_
    refine D.qX (k := 3) rfl (by kernel_rfl) (by kernel_rfl) (by kernel_rfl) rfl rfl (Qt.load rfl (Ld.hashS (Has.ro hA) k Tryd.row23 Tryd.cells23 (by omega) rfl)) ?_
    refine D.qX (k := 4) rfl (by kernel_rfl) (by kernel_rfl) (by kernel_rfl) rfl rfl (Qt.move (by conv => lhs; whnf)) ?_
    refine D.qX (k := 5) rfl (by kernel_rfl) (by kernel_rfl) (by kernel_rfl) rfl rfl (Qt.move (by conv => lhs; whnf)) ?_
    refine D.qX (k := 6) rfl (by kernel_rfl) (by kernel_rfl) (by kernel_rfl) rfl rfl (Qt.index Tryd.underlying44 Tryd.cells23 rfl rfl (by omega) (Has.ro hB) (by rw [hcs_length]; omega)) ?_
    refine D.qX (k := 7) rfl (by kernel_rfl) (by kernel_rfl) (by kernel_rfl) rfl rfl (Qt.load rfl (Ld.hashS (Has.ro hB) k Tryd.row23 Tryd.cells23 (by omega) rfl)) ?_
    refine D.qX (k := 8) rfl (by kernel_rfl) (by kernel_rfl) (by kernel_rfl) rfl rfl (Qt.dF (Qt.neH (a := xs.getD k zeroH) (b := xs.getD k zeroH) Tryd.guard23 Tryd.underlying23 Tryd.underlying5 Tryd.cells5 rfl rfl) (fun h => h rfl)) ?_
    refine D.done (Sub.refl _) (by kernel_rfl) ?_
    refine S.if_f rfl ?_
    refine TC.skip ?_
    refine TC.region ?_
    refine S.q rfl rfl (Qt.add (b := 1) rfl rfl (by simp only [kmax]; omega)) ?_
    refine S.q rfl rfl (Qt.move (by conv => lhs; whnf)) ?_
    refine S.nil ?_
    refine ⟨k + 1, ?_, ?_, ⟨?_, (List.forall_mem_cons.2 ⟨rfl, (fun _ h => nomatch h)⟩)⟩, Sub.refl _⟩
    · show _ ≤ _; omega
    · show _ < _; dsimp only; omega
    repeat (first | exact Out.refl _ _ | refine Out.put rfl ?_ | refine Out.puts rfl ?_ | refine Out.scr ?_ | refine Out.scr' rfl ?_)
  · refine S.nil ?_
    refine TC.seq ?_
    refine S.if_f rfl ?_
    refine TC.exit ?_
    refine TC.seq ?_
    refine TC.region ?_
    refine S.q rfl rfl (Qt.assign (by conv => lhs; whnf)) ?_
    refine S.nil ?_
    refine TC.ret ?_
    refine finQ.ret (RVs.tmp (by conv => lhs; whnf) RVs.nil) (Sub.nil _) ?_
    exact ⟨rfl, rfl⟩
theorem hashes_big (A : Option Addr) (c : Nat) (B : Option Addr) (d : Nat) (xs : List H32) (hx : xs.length ≤ 16384) (w0 : World) (hA : Ro w0 [] (SlA A (hcs xs))) (hB : Ro w0 [] (SlA B (hcs xs))) : Calls Tryd.prog 37 #[.slice A xs.length c, .slice B xs.length d] w0 (Ret w0 (.bool true)) := Calls.ret (hashes_walkB A c B d xs hx w0 hA hB)

end Go.Proofs.YtlneklemjfefpaaDoor
