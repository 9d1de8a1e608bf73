/-
  Walks: the law of a tree's steps. Printed by a program of ours.
-/
import Derived.Test.YtlneklemjfefpaaDoorUD
namespace Go.Proofs.YtlneklemjfefpaaDoor
open Go.E
set_option linter.unusedVariables false
set_option maxRecDepth 4000

theorem cut_cases (b height : Nat) : b = 0 ∨ (1 ≤ b ∧ ¬ b - 1 < 2 ^ height) ∨ (1 ≤ b ∧ b - 1 < 2 ^ height) := by omega
theorem spot_same {f : Nat → H32} {E : Nat → H32} {height : Nat} {ms : Tm} (ht : TreeOk E height f ms) (xs : List Nat) : (spots height xs 0).map (fun a => getT E ms a) = (spots height xs 0).map (fun a : Nat × Nat => nodeH f a.1 a.2) := List.map_congr_left fun a ha => ht.get a (spots_ok height xs 0 (okRoot height) a ha)
set_option maxHeartbeats 3200000 in
theorem law13a_walk (E : Nat → H32) (hEm : ∀ w, Tabs 2 0 w [] → Calls Tryd.prog 88 #[] w (Ret w (.agg (hcs (emptL E)).toArray))) (hE : ∀ h, E (h + 1) = joinH (h + 1) (E h) (E h)) (hEr : ∀ w, Tabs 3 1 w [] → Calls Tryd.prog 90 #[] w (Post w [] fun v L => ∃ O d, v = .slice O 33 d ∧ L = [OwnA 23 32 O 33 d (hcs (emptL E))])) (hne : E 0 ≠ E 1) (height : Nat) (hh : height ≤ 32) (A0 : Option Addr) (c0 : Nat) (zs : List Go.E.Act) (hzs : zs.length ≤ 25) (A : Option Addr) (c : Nat) (xs : List Nat) (hc : xs.length ≤ c) (hx40 : xs.length ≤ 40) (hpos : 0 < xs.length) (w0 : World) (hZ : Ro w0 [] (SlA A0 (zs.flatMap actL))) (hlow : ∀ x ∈ xs, x < 18446744073709551616) (hR : Ro w0 [] (SlA A (u64s xs))) (hT : Tabs 2 0 w0 []) (hT2 : Tabs 3 1 w0 []) :
    Calls Tryd.prog 13 #[.int .i64 (height : Int), .slice A0 zs.length c0, .slice A xs.length c] w0 (Post w0 [] fun v L => v = .bool true ∧ L = []) := by
  refine Calls.of (L := []) (n := 163) (rs := [.tmp 6]) Tryd.func13 rfl rfl rfl (Nat.le_of_ble_eq_true rfl) (Sat.nil _) ?_
  have hb64 : (xs.getD 0 0) < 18446744073709551616 := hlow _ (getD_mem 0 hpos)
  refine TC.seq ?_
  refine TC.region ?_
  refine S.q rfl rfl (Qt.assign (by conv => lhs; whnf)) ?_
  refine S.nil ?_
  refine TC.seq ?_
  refine TC.seq ?_
  refine TC.region ?_
  refine S.opS rfl rfl (OpV.con0 Tryd.ent21 rfl (fun w hw => Calls.ret (alive12_walk E hEm hne w (hT.at hw))) ?_)
  refine S.q rfl rfl (Qt.not_t rfl) ?_
  refine S.nil ?_
  refine S.if_f rfl ?_
  refine TC.skip ?_
  refine TC.seq ?_
  refine TC.seq ?_
  refine TC.region ?_
  refine S.q rfl rfl (Qt.move (by conv => lhs; whnf)) ?_
  refine S.q rfl rfl (Qt.len_slice Tryd.underlying71 rfl) ?_
  refine S.q rfl rfl (Qt.dF (Qt.gt (b := 40) rfl rfl) (by omega)) ?_
  refine S.nil ?_
  refine S.if_f rfl ?_
  refine TC.skip ?_
  refine TC.seq ?_
  refine TC.region ?_
  refine S.q rfl rfl (Qt.move (by conv => lhs; whnf)) ?_
  refine S.q rfl rfl (Qt.move (by conv => lhs; whnf)) ?_
  refine S.opS rfl rfl (OpV.con (Pre := []) (R := _) Tryd.ent32 rfl (List.Perm.refl _) (fun w hw => both_walk E hEm hE hEr height hh A0 c0 zs hzs w (Rd.ro hZ w hw) (hT.at hw) (hT2.at hw)) ?_)
  rintro v L' ⟨tb, mb, ms, ls, Al, cl, O, d, rfl, rfl, ht, hll, hlowl⟩
  refine S.q rfl rfl (Qt.move (by conv => lhs; whnf)) ?_
  refine S.q rfl rfl (Qt.extract rfl rfl) ?_
  refine S.q rfl rfl (Qt.extract rfl rfl) ?_
  refine S.q rfl rfl (Qt.extract rfl rfl) ?_
  refine S.q rfl rfl (Qt.extract rfl rfl) ?_
  refine S.opS rfl rfl (OpV.alloc Tryd.zero52 (fun b8 => ?_))
  refine S.q rfl rfl (Qt.assign (by conv => lhs; whnf)) ?_
  refine S.opN rfl (OpV.storeV0 rfl (by conv => lhs; whnf) (by exact Tryd.cells52) (by rfl) (by rfl) ?_)
  refine S.q rfl rfl (Qt.assign (by conv => lhs; whnf)) ?_
  refine S.q rfl rfl (Qt.assign (by conv => lhs; whnf)) ?_
  refine S.nil ?_
  refine TC.seq ?_
  refine TC.seq ?_
  refine TC.region ?_
  refine S.q rfl rfl (Qt.move (by conv => lhs; whnf)) ?_
  refine S.q rfl rfl (Qt.not_t rfl) ?_
  refine S.q rfl rfl (Qt.move (by conv => lhs; whnf)) ?_
  refine S.qg rfl rfl rfl (Qt.move (by conv => lhs; whnf)) ?_
  refine S.qg rfl rfl rfl (Qt.not_t rfl) ?_
  refine S.q rfl rfl (Qt.pick_f rfl (by conv => lhs; whnf)) ?_
  refine S.nil ?_
  refine S.if_f rfl ?_
  refine TC.skip ?_
  refine TC.seq ?_
  refine TC.region ?_
  refine S.q rfl rfl (Qt.move (by conv => lhs; whnf)) ?_
  refine S.q rfl rfl (Qt.move (by conv => lhs; whnf)) ?_
  by_cases hi : idxOk height xs
  · refine S.opS rfl rfl (OpV.con (Pre := []) (R := _) Tryd.ent70 rfl (List.Perm.refl _) (fun w hw => mkw_walk E tb mb height ms hh A c xs hc hi w (Rd.at 1 rfl w hw) (Rd.at 2 rfl w hw) hlow (Rd.ro hR w hw)) ?_)
    rintro v L' ⟨I, i, A1, a1, B1, b1, rfl, rfl⟩
    have eqL := leaf_same ht hi.low
    have eqS := spot_same ht xs
    have hsp : (spots height xs 0).length ≤ 8193 := by have h1 := spots_len height xs 0; have h2 : xs.length * height ≤ 256 * 32 := Nat.mul_le_mul hi.2.1 hh; omega
    refine S.q rfl rfl (Qt.move (by conv => lhs; whnf)) ?_
    refine S.q rfl rfl (Qt.extract rfl rfl) ?_
    refine S.q rfl rfl (Qt.extract rfl rfl) ?_
    refine S.opS rfl rfl (OpV.alloc Tryd.zero88 (fun b11 => ?_))
    refine S.opN rfl (OpV.storeV0 rfl (by conv => lhs; whnf) (by exact Tryd.cells88) (by rfl) (by rfl) ?_)
    refine S.q rfl rfl (Qt.assign (by conv => lhs; whnf)) ?_
    refine S.nil ?_
    refine TC.seq ?_
    refine TC.seq ?_
    refine TC.region ?_
    refine S.q rfl rfl (Qt.move (by conv => lhs; whnf)) ?_
    refine S.q rfl rfl (Qt.move (by conv => lhs; whnf)) ?_
    refine S.opS rfl rfl (OpV.con0 Tryd.ent66 rfl (fun w hw => rright10_T height hh A c xs hi w hlow (Rd.ro hR w hw)) ?_)
    refine S.q rfl rfl (Qt.not_t rfl) ?_
    refine S.nil ?_
    refine S.if_f rfl ?_
    refine TC.seq ?_
    refine S.draw ([], [14, 23]) Tryd.mixed (Sub.nil _) ?_
    refine D.qX (k := 0) rfl (by kernel_rfl) (by kernel_rfl) (by kernel_rfl) rfl rfl (Qt.move (by conv => lhs; whnf)) ?_
    refine D.qX (k := 1) rfl (by kernel_rfl) (by kernel_rfl) (by kernel_rfl) rfl rfl (Qt.nenil_nil Tryd.underlying27 rfl) ?_
    refine D.qX (k := 2) rfl (by kernel_rfl) (by kernel_rfl) (by kernel_rfl) rfl rfl (Qt.move (by conv => lhs; whnf)) ?_
    refine D.qgX (k := 3) rfl (by kernel_rfl) (by kernel_rfl) (by kernel_rfl) rfl rfl rfl (Qt.field Tryd.underlying88 rfl Tryd.cells71 rfl) ?_
    refine D.qgX (k := 4) rfl (by kernel_rfl) (by kernel_rfl) (by kernel_rfl) rfl rfl rfl (Qt.load rfl (Ld.one (Has.at 0 rfl) Tryd.one71 (rfl))) ?_
    refine D.qgX (k := 5) rfl (by kernel_rfl) (by kernel_rfl) (by kernel_rfl) rfl rfl rfl (Qt.move (by conv => lhs; whnf)) ?_
    refine D.cgX (k := 6) rfl (by kernel_rfl) (by kernel_rfl) (by kernel_rfl) rfl rfl rfl (CalU.con0 Tryd.ent71 rfl (fun w hw => wide_R I i A c xs (by omega) w (Rd.own (Rd.at 1 rfl) w hw) (Rd.ro hR w hw))) ?_
    refine D.qgX (k := 7) rfl (by kernel_rfl) (by kernel_rfl) (by kernel_rfl) rfl rfl rfl (Qt.not_t rfl) ?_
    refine D.qX (k := 8) rfl (by kernel_rfl) (by kernel_rfl) (by kernel_rfl) rfl rfl (Qt.pick_f rfl (by conv => lhs; whnf)) ?_
    refine D.qX (k := 9) rfl (by kernel_rfl) (by kernel_rfl) (by kernel_rfl) rfl rfl (Qt.move (by conv => lhs; whnf)) ?_
    refine D.qgX (k := 10) rfl (by kernel_rfl) (by kernel_rfl) (by kernel_rfl) rfl rfl rfl (Qt.field Tryd.underlying88 rfl Tryd.cells44 rfl) ?_
    refine D.qgX (k := 11) rfl (by kernel_rfl) (by kernel_rfl) (by kernel_rfl) rfl rfl rfl (Qt.load rfl (Ld.one (Has.at 0 rfl) Tryd.one44 (rfl))) ?_
    refine D.qgX (k := 12) rfl (by kernel_rfl) (by kernel_rfl) (by kernel_rfl) rfl rfl rfl (Qt.load rfl (Ld.all (vs := vl (.agg #[.int .i64 (height : Int), .slice Al ls.length cl, .slice O 33 d])) (Has.at 4 rfl) Tryd.row52 Tryd.cells52)) ?_
    refine D.qgX (k := 13) rfl (by kernel_rfl) (by kernel_rfl) (by kernel_rfl) rfl rfl rfl (Qt.move (by conv => lhs; whnf)) ?_
    refine D.ng (k := 14) (Sub.nil _) rfl (by kernel_rfl) (by kernel_rfl) rfl rfl rfl (OpV.con (Pre := []) (R := _) Tryd.ent69 rfl (List.Perm.refl _) (fun w hw => rleaves10_walk E hE height hh ls Al cl O d A c xs hi w (by omega) hlowl (Rd.own (Rd.at 7 rfl) w hw) (Rd.own (Rd.at 8 rfl) w hw) hlow (Rd.ro hR w hw) (hT2.at hw)) ?_)
    rintro v L' ⟨PA, qA, rfl, rfl⟩
    refine ⟨Sub.drop _ (Sub.keep _ (Sub.keep _ (Sub.keep _ (Sub.keep _ (Sub.keep _ (Sub.keep _ (Sub.keep _ (Sub.keep _ (Sub.keep _ (Sub.nil [])))))))))), ?_⟩
    refine D.cgX (k := 15) rfl (by kernel_rfl) (by kernel_rfl) (by kernel_rfl) rfl rfl rfl (CalU.con0 Tryd.ent37 rfl (fun w hw => (by have h := hashes_R A1 a1 PA qA ((xs).map (fun x => nodeH (fL E ls) 0 x)) (by rw [List.length_map]; omega) w (by rw [← eqL]; exact (Rd.own (Rd.at 3 rfl) w hw)) (Rd.own (Rd.at 0 rfl) w hw); rw [List.length_map] at h; exact h : Calls Tryd.prog 37 #[.slice A1 (xs).length a1, .slice PA (xs).length qA] w (Ret w (.bool true))))) ?_
    refine D.qgX (k := 16) rfl (by kernel_rfl) (by kernel_rfl) (by kernel_rfl) rfl rfl rfl (Qt.not_t rfl) ?_
    refine D.qX (k := 17) rfl (by kernel_rfl) (by kernel_rfl) (by kernel_rfl) rfl rfl (Qt.pick_f rfl (by conv => lhs; whnf)) ?_
    refine D.qX (k := 18) rfl (by kernel_rfl) (by kernel_rfl) (by kernel_rfl) rfl rfl (Qt.move (by conv => lhs; whnf)) ?_
    refine D.qgX (k := 19) rfl (by kernel_rfl) (by kernel_rfl) (by kernel_rfl) rfl rfl rfl (Qt.field Tryd.underlying88 rfl Tryd.cells44 rfl) ?_
    refine D.qgX (k := 20) rfl (by kernel_rfl) (by kernel_rfl) (by kernel_rfl) rfl rfl rfl (Qt.load rfl (Ld.one (Has.at 1 rfl) Tryd.one44 (rfl))) ?_
    refine D.qgX (k := 21) rfl (by kernel_rfl) (by kernel_rfl) (by kernel_rfl) rfl rfl rfl (Qt.load rfl (Ld.all (vs := vl (.agg #[.int .i64 (height : Int), .slice Al ls.length cl, .slice O 33 d])) (Has.at 5 rfl) Tryd.row52 Tryd.cells52)) ?_
    refine D.qgX (k := 22) rfl (by kernel_rfl) (by kernel_rfl) (by kernel_rfl) rfl rfl rfl (Qt.move (by conv => lhs; whnf)) ?_
    refine D.ng (k := 23) (Sub.nil _) rfl (by kernel_rfl) (by kernel_rfl) rfl rfl rfl (OpV.con (Pre := []) (R := _) Tryd.ent68 rfl (List.Perm.refl _) (fun w hw => rmake10_walk E hE height hh ls Al cl O d A c xs hi w (by omega) hlowl (Rd.own (Rd.at 8 rfl) w hw) (Rd.own (Rd.at 9 rfl) w hw) hlow (Rd.ro hR w hw) (hT2.at hw)) ?_)
    rintro v L' ⟨PB, qB, rfl, rfl⟩
    refine ⟨Sub.drop _ (Sub.keep _ (Sub.keep _ (Sub.keep _ (Sub.keep _ (Sub.keep _ (Sub.keep _ (Sub.keep _ (Sub.keep _ (Sub.keep _ (Sub.keep _ (Sub.nil []))))))))))), ?_⟩
    refine D.cgX (k := 24) rfl (by kernel_rfl) (by kernel_rfl) (by kernel_rfl) rfl rfl rfl (CalU.con0 Tryd.ent37 rfl (fun w hw => (by have h := hashes_big B1 b1 PB qB ((spots height xs 0).map (fun a : Nat × Nat => nodeH (fL E ls) a.1 a.2)) (by rw [List.length_map]; omega) w (by rw [← eqS]; exact (Rd.own (Rd.at 5 rfl) w hw)) (Rd.own (Rd.at 0 rfl) w hw); rw [List.length_map] at h; exact h : Calls Tryd.prog 37 #[.slice B1 (spots height xs 0).length b1, .slice PB (spots height xs 0).length qB] w (Ret w (.bool true))))) ?_
    refine D.qgX (k := 25) rfl (by kernel_rfl) (by kernel_rfl) (by kernel_rfl) rfl rfl rfl (Qt.not_t rfl) ?_
    refine D.qX (k := 26) rfl (by kernel_rfl) (by kernel_rfl) (by kernel_rfl) rfl rfl (Qt.pick_f rfl (by conv => lhs; whnf)) ?_
    refine D.done (Sub.nil _) (by kernel_rfl) ?_
    refine S.if_f rfl ?_
    refine TC.skip ?_
    refine TC.seq ?_
    refine TC.region ?_
    refine S.q rfl rfl (Qt.move (by conv => lhs; whnf)) ?_
    refine S.q rfl rfl (Qt.len_slice Tryd.underlying34 rfl) ?_
    refine S.q rfl rfl (Qt.convert Tryd.underlying3 Tryd.underlying24 rfl (by simp only [kmax]; omega)) ?_
    refine S.q rfl rfl (Qt.assign (by conv => lhs; whnf)) ?_
    refine S.nil ?_
    refine TC.seq ?_
    refine TC.seq ?_
    refine TC.region ?_
    refine S.q rfl rfl (Qt.move (by conv => lhs; whnf)) ?_
    refine S.q rfl rfl (Qt.len_slice Tryd.underlying71 rfl) ?_
    refine S.q rfl rfl (Qt.dT (Qt.gt (b := 0) rfl rfl) (by omega)) ?_
    refine S.nil ?_
    refine S.if_t rfl ?_
    refine TC.region ?_
    refine S.q rfl rfl (Qt.move (by conv => lhs; whnf)) ?_
    refine S.q rfl rfl (Qt.index (i := 0) Tryd.underlying71 Tryd.cells24 rfl rfl (by omega) (Has.ro hR) (by rw [u64s_len]; omega)) ?_
    refine S.q rfl rfl (Qt.load rfl (Ld.sl (v := .int .u64 ((xs.getD 0 0 : Nat) : Int)) (Has.ro hR) Tryd.one24 (u64s_get1 hpos))) ?_
    refine S.q rfl rfl (Qt.assign (by conv => lhs; whnf)) ?_
    refine S.nil ?_
    refine TC.seq ?_
    refine TC.region ?_
    refine S.q rfl rfl (Qt.move (by conv => lhs; whnf)) ?_
    refine S.q rfl rfl (Qt.move (by conv => lhs; whnf)) ?_
    rcases cut_cases (xs.getD 0 0) height with hb0 | ⟨h1, hb⟩ | ⟨h1, hb⟩
    · refine S.opS rfl rfl (OpV.con0 Tryd.ent72 rfl (fun w hw => Calls.ret (mkc_walk0 E tb mb height ms hh (xs.getD 0 0) hb0 w (Rd.at 7 rfl w hw) (Rd.at 8 rfl w hw))) ?_)
      refine S.q rfl rfl (Qt.move (by conv => lhs; whnf)) ?_
      refine S.q rfl rfl (Qt.extract rfl rfl) ?_
      refine S.q rfl rfl (Qt.extract rfl rfl) ?_
      refine S.opS rfl rfl (OpV.alloc Tryd.zero64 (fun b14 => ?_))
      refine S.opN rfl (OpV.storeV0 (v := .agg (hvl (zeroH) ++ [Value.slice none 0 0]).toArray) rfl rfl (by rw [vl_agg, cut_size]; exact Tryd.cells64) (cut_one _ _ _ _) (by rw [vl_agg, cut_size]; rfl) ?_)
      refine S.q rfl rfl (Qt.assign (by conv => lhs; whnf)) ?_
      refine S.nil ?_
      refine TC.seq ?_
      refine TC.seq ?_
      refine TC.region ?_
      refine S.q rfl rfl (Qt.move (by conv => lhs; whnf)) ?_
      refine S.q rfl rfl (Qt.dT (Qt.eq (a := (xs.getD 0 0)) (b := 0) rfl rfl) hb0) ?_
      refine S.q rfl rfl (Qt.move (by conv => lhs; whnf)) ?_
      refine S.pass rfl rfl ?_
      refine S.pass rfl rfl ?_
      refine S.pass rfl rfl ?_
      refine S.pass rfl rfl ?_
      refine S.pass rfl rfl ?_
      refine S.q rfl rfl (Qt.pick_t rfl (by conv => lhs; whnf)) ?_
      refine S.nil ?_
      refine S.if_t rfl ?_
      refine TC.seq ?_
      refine TC.region ?_
      refine S.q rfl rfl (Qt.move (by conv => lhs; whnf)) ?_
      refine S.opS rfl rfl (OpV.con0 Tryd.ent35 rfl (fun w hw => is1 w) ?_)
      refine S.q rfl rfl (Qt.move (by conv => lhs; whnf)) ?_
      refine S.qg rfl rfl rfl (Qt.field Tryd.underlying64 rfl Tryd.cells44 rfl) ?_
      refine S.qg rfl rfl rfl (Qt.load rfl (Ld.one (v := .slice none 0 0) (Has.at 0 rfl) Tryd.one44 (cut_path zeroH _))) ?_
      refine S.qg rfl rfl rfl (Qt.len_slice Tryd.underlying44 rfl) ?_
      refine S.qg rfl rfl rfl (Qt.dT (Qt.eq (b := 0) rfl rfl) (rfl)) ?_
      refine S.q rfl rfl (Qt.pick_t rfl (by conv => lhs; whnf)) ?_
      refine S.q rfl rfl (Qt.assign (by conv => lhs; whnf)) ?_
      refine S.nil ?_
      refine TC.ret ?_
      refine finQ.ret (RVs.tmp (by conv => lhs; whnf) RVs.nil) (Sub.nil _) ?_
      exact ⟨rfl, rfl⟩
    · refine S.opS rfl rfl (OpV.con0 Tryd.ent72 rfl (fun w hw => Calls.ret (mkc_walkF E tb mb height ms hh (xs.getD 0 0) hb64 h1 hb w (Rd.at 7 rfl w hw) (Rd.at 8 rfl w hw))) ?_)
      refine S.q rfl rfl (Qt.move (by conv => lhs; whnf)) ?_
      refine S.q rfl rfl (Qt.extract rfl rfl) ?_
      refine S.q rfl rfl (Qt.extract rfl rfl) ?_
      refine S.opS rfl rfl (OpV.alloc Tryd.zero64 (fun b14 => ?_))
      refine S.opN rfl (OpV.storeV0 (v := .agg (hvl (zeroH) ++ [Value.slice none 0 0]).toArray) rfl rfl (by rw [vl_agg, cut_size]; exact Tryd.cells64) (cut_one _ _ _ _) (by rw [vl_agg, cut_size]; rfl) ?_)
      refine S.q rfl rfl (Qt.assign (by conv => lhs; whnf)) ?_
      refine S.nil ?_
      refine TC.seq ?_
      refine TC.seq ?_
      refine TC.region ?_
      refine S.q rfl rfl (Qt.move (by conv => lhs; whnf)) ?_
      refine S.q rfl rfl (Qt.dF (Qt.eq (a := (xs.getD 0 0)) (b := 0) rfl rfl) (by omega)) ?_
      refine S.q rfl rfl (Qt.move (by conv => lhs; whnf)) ?_
      refine S.qg rfl rfl rfl (Qt.load rfl (Ld.all (vs := vl (.agg #[.int .i64 (height : Int), .slice Al ls.length cl, .slice O 33 d])) (Has.at 7 rfl) Tryd.row52 Tryd.cells52)) ?_
      refine S.qg rfl rfl rfl (Qt.move (by conv => lhs; whnf)) ?_
      refine S.qg rfl rfl rfl (Qt.sub (b := 1) rfl rfl (by omega) (by simp only [kmax]; omega)) ?_
      refine S.opg rfl rfl rfl (OpV.con0 Tryd.ent34 rfl (fun w hw => rhas_F height 0 ((xs.getD 0 0) - 1) hh (by omega) (not_ok0 hb) Al ls.length cl O d w) ?_)
      refine S.qg rfl rfl rfl (Qt.not_f rfl) ?_
      refine S.q rfl rfl (Qt.pick_f rfl (by conv => lhs; whnf)) ?_
      refine S.nil ?_
      refine S.if_t rfl ?_
      refine TC.seq ?_
      refine TC.region ?_
      refine S.q rfl rfl (Qt.move (by conv => lhs; whnf)) ?_
      refine S.opS rfl rfl (OpV.con0 Tryd.ent35 rfl (fun w hw => is1 w) ?_)
      refine S.q rfl rfl (Qt.move (by conv => lhs; whnf)) ?_
      refine S.qg rfl rfl rfl (Qt.field Tryd.underlying64 rfl Tryd.cells44 rfl) ?_
      refine S.qg rfl rfl rfl (Qt.load rfl (Ld.one (v := .slice none 0 0) (Has.at 0 rfl) Tryd.one44 (cut_path zeroH _))) ?_
      refine S.qg rfl rfl rfl (Qt.len_slice Tryd.underlying44 rfl) ?_
      refine S.qg rfl rfl rfl (Qt.dT (Qt.eq (b := 0) rfl rfl) (rfl)) ?_
      refine S.q rfl rfl (Qt.pick_t rfl (by conv => lhs; whnf)) ?_
      refine S.q rfl rfl (Qt.assign (by conv => lhs; whnf)) ?_
      refine S.nil ?_
      refine TC.ret ?_
      refine finQ.ret (RVs.tmp (by conv => lhs; whnf) RVs.nil) (Sub.nil _) ?_
      exact ⟨rfl, rfl⟩
    · refine S.opS rfl rfl (OpV.con (Pre := []) (R := _) Tryd.ent72 rfl (List.Perm.refl _) (fun w hw => mkc_walk E tb mb height ms hh (xs.getD 0 0) h1 hb w (Rd.at 7 rfl w hw) (Rd.at 8 rfl w hw)) ?_)
      rintro v L' ⟨O1, d1, rfl, rfl⟩
      refine S.q rfl rfl (Qt.move (by conv => lhs; whnf)) ?_
      refine S.q rfl rfl (Qt.extract rfl rfl) ?_
      refine S.q rfl rfl (Qt.extract rfl rfl) ?_
      refine S.opS rfl rfl (OpV.alloc Tryd.zero64 (fun b14 => ?_))
      refine S.opN rfl (OpV.storeV0 (v := .agg (hvl (getT E ms (0, (xs.getD 0 0) - 1)) ++ [Value.slice O1 height d1]).toArray) rfl rfl (by rw [vl_agg, cut_size]; exact Tryd.cells64) (cut_one _ _ _ _) (by rw [vl_agg, cut_size]; rfl) ?_)
      refine S.q rfl rfl (Qt.assign (by conv => lhs; whnf)) ?_
      refine S.nil ?_
      refine TC.seq ?_
      refine TC.seq ?_
      refine TC.region ?_
      refine S.q rfl rfl (Qt.move (by conv => lhs; whnf)) ?_
      refine S.q rfl rfl (Qt.dF (Qt.eq (a := (xs.getD 0 0)) (b := 0) rfl rfl) (by omega)) ?_
      refine S.q rfl rfl (Qt.move (by conv => lhs; whnf)) ?_
      refine S.qg rfl rfl rfl (Qt.load rfl (Ld.all (vs := vl (.agg #[.int .i64 (height : Int), .slice Al ls.length cl, .slice O 33 d])) (Has.at 8 rfl) Tryd.row52 Tryd.cells52)) ?_
      refine S.qg rfl rfl rfl (Qt.move (by conv => lhs; whnf)) ?_
      refine S.qg rfl rfl rfl (Qt.sub (b := 1) rfl rfl (by omega) (by simp only [kmax]; omega)) ?_
      refine S.opg rfl rfl rfl (OpV.con0 Tryd.ent34 rfl (fun w hw => rhas_T height 0 ((xs.getD 0 0) - 1) hh (ok0 hb) Al ls.length cl O d w) ?_)
      refine S.qg rfl rfl rfl (Qt.not_t rfl) ?_
      refine S.q rfl rfl (Qt.pick_f rfl (by conv => lhs; whnf)) ?_
      refine S.nil ?_
      refine S.if_f rfl ?_
      refine TC.skip ?_
      refine TC.seq ?_
      refine TC.region ?_
      refine S.q rfl rfl (Qt.move (by conv => lhs; whnf)) ?_
      refine S.opS rfl rfl (OpV.con0 Tryd.ent72 rfl (fun w hw => Calls.ret (mkc_walkN (xs.getD 0 0) h1 hb64 w)) ?_)
      refine S.q rfl rfl (Qt.move (by conv => lhs; whnf)) ?_
      refine S.q rfl rfl (Qt.extract rfl rfl) ?_
      refine S.q rfl rfl (Qt.extract rfl rfl) ?_
      refine S.opS rfl rfl (OpV.alloc Tryd.zero64 (fun b15 => ?_))
      refine S.opN rfl (OpV.storeV0 (v := .agg (hvl (zeroH) ++ [Value.slice none 0 0]).toArray) rfl rfl (by rw [vl_agg, cut_size]; exact Tryd.cells64) (cut_one _ _ _ _) (by rw [vl_agg, cut_size]; rfl) ?_)
      refine S.q rfl rfl (Qt.assign (by conv => lhs; whnf)) ?_
      refine S.nil ?_
      refine TC.seq ?_
      refine TC.region ?_
      refine S.q rfl rfl (Qt.move (by conv => lhs; whnf)) ?_
      refine S.opS rfl rfl (OpV.con0 Tryd.ent70 rfl (fun w hw => Calls.ret (mkw_walkN A c xs w)) ?_)
      refine S.q rfl rfl (Qt.move (by conv => lhs; whnf)) ?_
      refine S.q rfl rfl (Qt.extract rfl rfl) ?_
      refine S.q rfl rfl (Qt.extract rfl rfl) ?_
      refine S.opS rfl rfl (OpV.alloc Tryd.zero88 (fun b17 => ?_))
      refine S.opN rfl (OpV.storeV0 rfl (by conv => lhs; whnf) (by exact Tryd.cells88) (by rfl) (by rfl) ?_)
      refine S.q rfl rfl (Qt.assign (by conv => lhs; whnf)) ?_
      refine S.nil ?_
      refine TC.seq ?_
      refine S.draw ([], [17]) Tryd.mixed (Sub.nil _) ?_
      refine D.qX (k := 0) rfl (by kernel_rfl) (by kernel_rfl) (by kernel_rfl) rfl rfl (Qt.move (by conv => lhs; whnf)) ?_
      refine D.qX (k := 1) rfl (by kernel_rfl) (by kernel_rfl) (by kernel_rfl) rfl rfl (Qt.eqnil_nil Tryd.underlying27 rfl) ?_
      refine D.qX (k := 2) rfl (by kernel_rfl) (by kernel_rfl) (by kernel_rfl) rfl rfl (Qt.move (by conv => lhs; whnf)) ?_
      refine D.qgX (k := 3) rfl (by kernel_rfl) (by kernel_rfl) (by kernel_rfl) rfl rfl rfl (Qt.field Tryd.underlying64 rfl Tryd.cells23 rfl) ?_
      refine D.qgX (k := 4) rfl (by kernel_rfl) (by kernel_rfl) (by kernel_rfl) rfl rfl rfl (Qt.load rfl (Ld.row (vs := hvl (getT E ms (0, (xs.getD 0 0) - 1))) (Has.at 2 rfl) Tryd.row23 (by rw [hvl_length]; exact Tryd.cells23) (cut_leaf (getT E ms (0, (xs.getD 0 0) - 1)) _))) ?_
      refine D.qgX (k := 5) rfl (by kernel_rfl) (by kernel_rfl) (by kernel_rfl) rfl rfl rfl (Qt.load rfl (Ld.all (vs := vl (.agg #[.int .i64 (height : Int), .slice Al ls.length cl, .slice O 33 d])) (Has.at 10 rfl) Tryd.row52 Tryd.cells52)) ?_
      refine D.qgX (k := 6) rfl (by kernel_rfl) (by kernel_rfl) (by kernel_rfl) rfl rfl rfl (Qt.move (by conv => lhs; whnf)) ?_
      refine D.qgX (k := 7) rfl (by kernel_rfl) (by kernel_rfl) (by kernel_rfl) rfl rfl rfl (Qt.sub (b := 1) rfl rfl (by omega) (by simp only [kmax]; omega)) ?_
      refine D.cgX (k := 8) rfl (by kernel_rfl) (by kernel_rfl) (by kernel_rfl) rfl rfl rfl (CalU.con0 Tryd.ent36 rfl (fun w hw => rnode_R E hE height hh ls Al cl O d 0 ((xs.getD 0 0) - 1) (ok0 hb) w (by omega) hlowl (Rd.own (Rd.at 13 rfl) w hw) (Rd.own (Rd.at 14 rfl) w hw) (hT2.at hw))) ?_
      refine D.qgX (k := 9) rfl (by kernel_rfl) (by kernel_rfl) (by kernel_rfl) rfl rfl rfl (Qt.dT (Qt.eqH (a := getT E ms (0, (xs.getD 0 0) - 1)) (b := nodeH (fL E ls) 0 ((xs.getD 0 0) - 1)) Tryd.guard23 Tryd.underlying23 Tryd.underlying5 Tryd.cells5 rfl rfl) (ht.get _ (ok0 hb))) ?_
      refine D.qX (k := 10) rfl (by kernel_rfl) (by kernel_rfl) (by kernel_rfl) rfl rfl (Qt.pick_t rfl (by conv => lhs; whnf)) ?_
      refine D.qX (k := 11) rfl (by kernel_rfl) (by kernel_rfl) (by kernel_rfl) rfl rfl (Qt.move (by conv => lhs; whnf)) ?_
      refine D.qgX (k := 12) rfl (by kernel_rfl) (by kernel_rfl) (by kernel_rfl) rfl rfl rfl (Qt.field Tryd.underlying64 rfl Tryd.cells44 rfl) ?_
      refine D.qgX (k := 13) rfl (by kernel_rfl) (by kernel_rfl) (by kernel_rfl) rfl rfl rfl (Qt.load rfl (Ld.one (v := .slice O1 height d1) (Has.at 2 rfl) Tryd.one44 (cut_path (getT E ms (0, (xs.getD 0 0) - 1)) _))) ?_
      refine D.qgX (k := 14) rfl (by kernel_rfl) (by kernel_rfl) (by kernel_rfl) rfl rfl rfl (Qt.load rfl (Ld.all (vs := vl (.agg #[.int .i64 (height : Int), .slice Al ls.length cl, .slice O 33 d])) (Has.at 10 rfl) Tryd.row52 Tryd.cells52)) ?_
      refine D.qgX (k := 15) rfl (by kernel_rfl) (by kernel_rfl) (by kernel_rfl) rfl rfl rfl (Qt.move (by conv => lhs; whnf)) ?_
      refine D.qgX (k := 16) rfl (by kernel_rfl) (by kernel_rfl) (by kernel_rfl) rfl rfl rfl (Qt.sub (b := 1) rfl rfl (by omega) (by simp only [kmax]; omega)) ?_
      refine D.ng (k := 17) (Sub.nil _) rfl (by kernel_rfl) (by kernel_rfl) rfl rfl rfl (OpV.con (Pre := []) (R := _) Tryd.ent38 rfl (List.Perm.refl _) (fun w hw => rpath_walk E hE height hh ls Al cl O d ((xs.getD 0 0) - 1) hb w (by omega) hlowl (Rd.own (Rd.at 13 rfl) w hw) (Rd.own (Rd.at 14 rfl) w hw) (hT2.at hw)) ?_)
      rintro v L' ⟨P, q, rfl, rfl⟩
      refine ⟨Sub.drop _ (Sub.keep _ (Sub.keep _ (Sub.keep _ (Sub.keep _ (Sub.keep _ (Sub.keep _ (Sub.keep _ (Sub.keep _ (Sub.keep _ (Sub.keep _ (Sub.keep _ (Sub.keep _ (Sub.keep _ (Sub.keep _ (Sub.keep _ (Sub.nil [])))))))))))))))), ?_⟩
      refine D.cgX (k := 18) rfl (by kernel_rfl) (by kernel_rfl) (by kernel_rfl) rfl rfl rfl (CalU.con0 Tryd.ent37 rfl (fun w hw => (by have h := hashes_R O1 d1 P q (pathH (fL E ls) height ((xs.getD 0 0) - 1)) (by rw [pathH_length]; omega) w (by rw [← pathT_ok ht hb]; exact (Rd.own (Rd.at 4 rfl) w hw)) (Rd.own (Rd.at 0 rfl) w hw); rw [pathH_length] at h; exact h : Calls Tryd.prog 37 #[.slice O1 height d1, .slice P height q] w (Ret w (.bool true))))) ?_
      refine D.qX (k := 19) rfl (by kernel_rfl) (by kernel_rfl) (by kernel_rfl) rfl rfl (Qt.pick_t rfl (by conv => lhs; whnf)) ?_
      refine D.qX (k := 20) rfl (by kernel_rfl) (by kernel_rfl) (by kernel_rfl) rfl rfl (Qt.move (by conv => lhs; whnf)) ?_
      refine D.qgX (k := 21) rfl (by kernel_rfl) (by kernel_rfl) (by kernel_rfl) rfl rfl rfl (Qt.move (by conv => lhs; whnf)) ?_
      refine D.cgX (k := 22) rfl (by kernel_rfl) (by kernel_rfl) (by kernel_rfl) rfl rfl rfl (CalU.con0 Tryd.ent35 rfl (fun w hw => is11 w)) ?_
      refine D.qX (k := 23) rfl (by kernel_rfl) (by kernel_rfl) (by kernel_rfl) rfl rfl (Qt.pick_t rfl (by conv => lhs; whnf)) ?_
      refine D.qX (k := 24) rfl (by kernel_rfl) (by kernel_rfl) (by kernel_rfl) rfl rfl (Qt.move (by conv => lhs; whnf)) ?_
      refine D.qgX (k := 25) rfl (by kernel_rfl) (by kernel_rfl) (by kernel_rfl) rfl rfl rfl (Qt.move (by conv => lhs; whnf)) ?_
      refine D.cgX (k := 26) rfl (by kernel_rfl) (by kernel_rfl) (by kernel_rfl) rfl rfl rfl (CalU.con0 Tryd.ent35 rfl (fun w hw => is11 w)) ?_
      refine D.qX (k := 27) rfl (by kernel_rfl) (by kernel_rfl) (by kernel_rfl) rfl rfl (Qt.pick_t rfl (by conv => lhs; whnf)) ?_
      refine D.qX (k := 28) rfl (by kernel_rfl) (by kernel_rfl) (by kernel_rfl) rfl rfl (Qt.assign (by conv => lhs; whnf)) ?_
      refine D.done (Sub.nil _) (by kernel_rfl) ?_
      refine TC.ret ?_
      refine finQ.ret (RVs.tmp (by conv => lhs; whnf) RVs.nil) (Sub.nil _) ?_
      exact ⟨rfl, rfl⟩
  · refine S.opS rfl rfl (OpV.con0 Tryd.ent70 rfl (fun w hw => Calls.ret (mkw_walkF E tb mb height ms hh A c xs hi w (Rd.at 1 rfl w hw) (Rd.at 2 rfl w hw) hlow (Rd.ro hR w hw))) ?_)
    refine S.q rfl rfl (Qt.move (by conv => lhs; whnf)) ?_
    refine S.q rfl rfl (Qt.extract rfl rfl) ?_
    refine S.q rfl rfl (Qt.extract rfl rfl) ?_
    refine S.opS rfl rfl (OpV.alloc Tryd.zero88 (fun b11 => ?_))
    refine S.opN rfl (OpV.storeV0 rfl (by conv => lhs; whnf) (by exact Tryd.cells88) (by rfl) (by rfl) ?_)
    refine S.q rfl rfl (Qt.assign (by conv => lhs; whnf)) ?_
    refine S.nil ?_
    refine TC.seq ?_
    refine TC.seq ?_
    refine TC.region ?_
    refine S.q rfl rfl (Qt.move (by conv => lhs; whnf)) ?_
    refine S.q rfl rfl (Qt.move (by conv => lhs; whnf)) ?_
    refine S.opS rfl rfl (OpV.con0 Tryd.ent66 rfl (fun w hw => rright10_F height hh A c xs hi w hlow (Rd.ro hR w hw)) ?_)
    refine S.q rfl rfl (Qt.not_f rfl) ?_
    refine S.nil ?_
    refine S.if_t rfl ?_
    refine TC.seq ?_
    refine TC.region ?_
    refine S.q rfl rfl (Qt.move (by conv => lhs; whnf)) ?_
    refine S.opS rfl rfl (OpV.con0 Tryd.ent35 rfl (fun w hw => is1 w) ?_)
    refine S.q rfl rfl (Qt.not_t rfl) ?_
    refine S.q rfl rfl (Qt.move (by conv => lhs; whnf)) ?_
    refine S.qg rfl rfl rfl (Qt.field Tryd.underlying88 rfl Tryd.cells71 rfl) ?_
    refine S.qg rfl rfl rfl (Qt.load rfl (Ld.one (Has.at 0 rfl) Tryd.one71 (rfl))) ?_
    refine S.qg rfl rfl rfl (Qt.len_slice Tryd.underlying71 rfl) ?_
    refine S.qg rfl rfl rfl (Qt.field Tryd.underlying88 rfl Tryd.cells44 rfl) ?_
    refine S.qg rfl rfl rfl (Qt.load rfl (Ld.one (Has.at 0 rfl) Tryd.one44 (rfl))) ?_
    refine S.qg rfl rfl rfl (Qt.len_slice Tryd.underlying44 rfl) ?_
    refine S.qg rfl rfl rfl (Qt.add rfl rfl (by simp only [kmax]; omega)) ?_
    refine S.qg rfl rfl rfl (Qt.field Tryd.underlying88 rfl Tryd.cells44 rfl) ?_
    refine S.qg rfl rfl rfl (Qt.load rfl (Ld.one (Has.at 0 rfl) Tryd.one44 (rfl))) ?_
    refine S.qg rfl rfl rfl (Qt.len_slice Tryd.underlying44 rfl) ?_
    refine S.qg rfl rfl rfl (Qt.add rfl rfl (by simp only [kmax]; omega)) ?_
    refine S.qg rfl rfl rfl (Qt.dF (Qt.gt (b := 0) rfl rfl) (by omega)) ?_
    refine S.q rfl rfl (Qt.pick_f rfl (by conv => lhs; whnf)) ?_
    refine S.nil ?_
    refine S.if_f rfl ?_
    refine TC.skip ?_
    refine TC.seq ?_
    refine TC.region ?_
    refine S.q rfl rfl (Qt.move (by conv => lhs; whnf)) ?_
    refine S.q rfl rfl (Qt.len_slice Tryd.underlying34 rfl) ?_
    refine S.q rfl rfl (Qt.convert Tryd.underlying3 Tryd.underlying24 rfl (by simp only [kmax]; omega)) ?_
    refine S.q rfl rfl (Qt.assign (by conv => lhs; whnf)) ?_
    refine S.nil ?_
    refine TC.seq ?_
    refine TC.seq ?_
    refine TC.region ?_
    refine S.q rfl rfl (Qt.move (by conv => lhs; whnf)) ?_
    refine S.q rfl rfl (Qt.len_slice Tryd.underlying71 rfl) ?_
    refine S.q rfl rfl (Qt.dT (Qt.gt (b := 0) rfl rfl) (by omega)) ?_
    refine S.nil ?_
    refine S.if_t rfl ?_
    refine TC.region ?_
    refine S.q rfl rfl (Qt.move (by conv => lhs; whnf)) ?_
    refine S.q rfl rfl (Qt.index (i := 0) Tryd.underlying71 Tryd.cells24 rfl rfl (by omega) (Has.ro hR) (by rw [u64s_len]; omega)) ?_
    refine S.q rfl rfl (Qt.load rfl (Ld.sl (v := .int .u64 ((xs.getD 0 0 : Nat) : Int)) (Has.ro hR) Tryd.one24 (u64s_get1 hpos))) ?_
    refine S.q rfl rfl (Qt.assign (by conv => lhs; whnf)) ?_
    refine S.nil ?_
    refine TC.seq ?_
    refine TC.region ?_
    refine S.q rfl rfl (Qt.move (by conv => lhs; whnf)) ?_
    refine S.q rfl rfl (Qt.move (by conv => lhs; whnf)) ?_
    rcases cut_cases (xs.getD 0 0) height with hb0 | ⟨h1, hb⟩ | ⟨h1, hb⟩
    · refine S.opS rfl rfl (OpV.con0 Tryd.ent72 rfl (fun w hw => Calls.ret (mkc_walk0 E tb mb height ms hh (xs.getD 0 0) hb0 w (Rd.at 2 rfl w hw) (Rd.at 3 rfl w hw))) ?_)
      refine S.q rfl rfl (Qt.move (by conv => lhs; whnf)) ?_
      refine S.q rfl rfl (Qt.extract rfl rfl) ?_
      refine S.q rfl rfl (Qt.extract rfl rfl) ?_
      refine S.opS rfl rfl (OpV.alloc Tryd.zero64 (fun b14 => ?_))
      refine S.opN rfl (OpV.storeV0 (v := .agg (hvl (zeroH) ++ [Value.slice none 0 0]).toArray) rfl rfl (by rw [vl_agg, cut_size]; exact Tryd.cells64) (cut_one _ _ _ _) (by rw [vl_agg, cut_size]; rfl) ?_)
      refine S.q rfl rfl (Qt.assign (by conv => lhs; whnf)) ?_
      refine S.nil ?_
      refine TC.seq ?_
      refine TC.seq ?_
      refine TC.region ?_
      refine S.q rfl rfl (Qt.move (by conv => lhs; whnf)) ?_
      refine S.q rfl rfl (Qt.dT (Qt.eq (a := (xs.getD 0 0)) (b := 0) rfl rfl) hb0) ?_
      refine S.q rfl rfl (Qt.move (by conv => lhs; whnf)) ?_
      refine S.pass rfl rfl ?_
      refine S.pass rfl rfl ?_
      refine S.pass rfl rfl ?_
      refine S.pass rfl rfl ?_
      refine S.pass rfl rfl ?_
      refine S.q rfl rfl (Qt.pick_t rfl (by conv => lhs; whnf)) ?_
      refine S.nil ?_
      refine S.if_t rfl ?_
      refine TC.seq ?_
      refine TC.region ?_
      refine S.q rfl rfl (Qt.move (by conv => lhs; whnf)) ?_
      refine S.opS rfl rfl (OpV.con0 Tryd.ent35 rfl (fun w hw => is1 w) ?_)
      refine S.q rfl rfl (Qt.move (by conv => lhs; whnf)) ?_
      refine S.qg rfl rfl rfl (Qt.field Tryd.underlying64 rfl Tryd.cells44 rfl) ?_
      refine S.qg rfl rfl rfl (Qt.load rfl (Ld.one (v := .slice none 0 0) (Has.at 0 rfl) Tryd.one44 (cut_path zeroH _))) ?_
      refine S.qg rfl rfl rfl (Qt.len_slice Tryd.underlying44 rfl) ?_
      refine S.qg rfl rfl rfl (Qt.dT (Qt.eq (b := 0) rfl rfl) (rfl)) ?_
      refine S.q rfl rfl (Qt.pick_t rfl (by conv => lhs; whnf)) ?_
      refine S.q rfl rfl (Qt.assign (by conv => lhs; whnf)) ?_
      refine S.nil ?_
      refine TC.ret ?_
      refine finQ.ret (RVs.tmp (by conv => lhs; whnf) RVs.nil) (Sub.nil _) ?_
      exact ⟨rfl, rfl⟩
    · refine S.opS rfl rfl (OpV.con0 Tryd.ent72 rfl (fun w hw => Calls.ret (mkc_walkF E tb mb height ms hh (xs.getD 0 0) hb64 h1 hb w (Rd.at 2 rfl w hw) (Rd.at 3 rfl w hw))) ?_)
      refine S.q rfl rfl (Qt.move (by conv => lhs; whnf)) ?_
      refine S.q rfl rfl (Qt.extract rfl rfl) ?_
      refine S.q rfl rfl (Qt.extract rfl rfl) ?_
      refine S.opS rfl rfl (OpV.alloc Tryd.zero64 (fun b14 => ?_))
      refine S.opN rfl (OpV.storeV0 (v := .agg (hvl (zeroH) ++ [Value.slice none 0 0]).toArray) rfl rfl (by rw [vl_agg, cut_size]; exact Tryd.cells64) (cut_one _ _ _ _) (by rw [vl_agg, cut_size]; rfl) ?_)
      refine S.q rfl rfl (Qt.assign (by conv => lhs; whnf)) ?_
      refine S.nil ?_
      refine TC.seq ?_
      refine TC.seq ?_
      refine TC.region ?_
      refine S.q rfl rfl (Qt.move (by conv => lhs; whnf)) ?_
      refine S.q rfl rfl (Qt.dF (Qt.eq (a := (xs.getD 0 0)) (b := 0) rfl rfl) (by omega)) ?_
      refine S.q rfl rfl (Qt.move (by conv => lhs; whnf)) ?_
      refine S.qg rfl rfl rfl (Qt.load rfl (Ld.all (vs := vl (.agg #[.int .i64 (height : Int), .slice Al ls.length cl, .slice O 33 d])) (Has.at 2 rfl) Tryd.row52 Tryd.cells52)) ?_
      refine S.qg rfl rfl rfl (Qt.move (by conv => lhs; whnf)) ?_
      refine S.qg rfl rfl rfl (Qt.sub (b := 1) rfl rfl (by omega) (by simp only [kmax]; omega)) ?_
      refine S.opg rfl rfl rfl (OpV.con0 Tryd.ent34 rfl (fun w hw => rhas_F height 0 ((xs.getD 0 0) - 1) hh (by omega) (not_ok0 hb) Al ls.length cl O d w) ?_)
      refine S.qg rfl rfl rfl (Qt.not_f rfl) ?_
      refine S.q rfl rfl (Qt.pick_f rfl (by conv => lhs; whnf)) ?_
      refine S.nil ?_
      refine S.if_t rfl ?_
      refine TC.seq ?_
      refine TC.region ?_
      refine S.q rfl rfl (Qt.move (by conv => lhs; whnf)) ?_
      refine S.opS rfl rfl (OpV.con0 Tryd.ent35 rfl (fun w hw => is1 w) ?_)
      refine S.q rfl rfl (Qt.move (by conv => lhs; whnf)) ?_
      refine S.qg rfl rfl rfl (Qt.field Tryd.underlying64 rfl Tryd.cells44 rfl) ?_
      refine S.qg rfl rfl rfl (Qt.load rfl (Ld.one (v := .slice none 0 0) (Has.at 0 rfl) Tryd.one44 (cut_path zeroH _))) ?_
      refine S.qg rfl rfl rfl (Qt.len_slice Tryd.underlying44 rfl) ?_
      refine S.qg rfl rfl rfl (Qt.dT (Qt.eq (b := 0) rfl rfl) (rfl)) ?_
      refine S.q rfl rfl (Qt.pick_t rfl (by conv => lhs; whnf)) ?_
      refine S.q rfl rfl (Qt.assign (by conv => lhs; whnf)) ?_
      refine S.nil ?_
      refine TC.ret ?_
      refine finQ.ret (RVs.tmp (by conv => lhs; whnf) RVs.nil) (Sub.nil _) ?_
      exact ⟨rfl, rfl⟩
    · refine S.opS rfl rfl (OpV.con (Pre := []) (R := _) Tryd.ent72 rfl (List.Perm.refl _) (fun w hw => mkc_walk E tb mb height ms hh (xs.getD 0 0) h1 hb w (Rd.at 2 rfl w hw) (Rd.at 3 rfl w hw)) ?_)
      rintro v L' ⟨O1, d1, rfl, rfl⟩
      refine S.q rfl rfl (Qt.move (by conv => lhs; whnf)) ?_
      refine S.q rfl rfl (Qt.extract rfl rfl) ?_
      refine S.q rfl rfl (Qt.extract rfl rfl) ?_
      refine S.opS rfl rfl (OpV.alloc Tryd.zero64 (fun b14 => ?_))
      refine S.opN rfl (OpV.storeV0 (v := .agg (hvl (getT E ms (0, (xs.getD 0 0) - 1)) ++ [Value.slice O1 height d1]).toArray) rfl rfl (by rw [vl_agg, cut_size]; exact Tryd.cells64) (cut_one _ _ _ _) (by rw [vl_agg, cut_size]; rfl) ?_)
      refine S.q rfl rfl (Qt.assign (by conv => lhs; whnf)) ?_
      refine S.nil ?_
      refine TC.seq ?_
      refine TC.seq ?_
      refine TC.region ?_
      refine S.q rfl rfl (Qt.move (by conv => lhs; whnf)) ?_
      refine S.q rfl rfl (Qt.dF (Qt.eq (a := (xs.getD 0 0)) (b := 0) rfl rfl) (by omega)) ?_
      refine S.q rfl rfl (Qt.move (by conv => lhs; whnf)) ?_
      refine S.qg rfl rfl rfl (Qt.load rfl (Ld.all (vs := vl (.agg #[.int .i64 (height : Int), .slice Al ls.length cl, .slice O 33 d])) (Has.at 3 rfl) Tryd.row52 Tryd.cells52)) ?_
      refine S.qg rfl rfl rfl (Qt.move (by conv => lhs; whnf)) ?_
      refine S.qg rfl rfl rfl (Qt.sub (b := 1) rfl rfl (by omega) (by simp only [kmax]; omega)) ?_
      refine S.opg rfl rfl rfl (OpV.con0 Tryd.ent34 rfl (fun w hw => rhas_T height 0 ((xs.getD 0 0) - 1) hh (ok0 hb) Al ls.length cl O d w) ?_)
      refine S.qg rfl rfl rfl (Qt.not_t rfl) ?_
      refine S.q rfl rfl (Qt.pick_f rfl (by conv => lhs; whnf)) ?_
      refine S.nil ?_
      refine S.if_f rfl ?_
      refine TC.skip ?_
      refine TC.seq ?_
      refine TC.region ?_
      refine S.q rfl rfl (Qt.move (by conv => lhs; whnf)) ?_
      refine S.opS rfl rfl (OpV.con0 Tryd.ent72 rfl (fun w hw => Calls.ret (mkc_walkN (xs.getD 0 0) h1 hb64 w)) ?_)
      refine S.q rfl rfl (Qt.move (by conv => lhs; whnf)) ?_
      refine S.q rfl rfl (Qt.extract rfl rfl) ?_
      refine S.q rfl rfl (Qt.extract rfl rfl) ?_
      refine S.opS rfl rfl (OpV.alloc Tryd.zero64 (fun b15 => ?_))
      refine S.opN rfl (OpV.storeV0 (v := .agg (hvl (zeroH) ++ [Value.slice none 0 0]).toArray) rfl rfl (by rw [vl_agg, cut_size]; exact Tryd.cells64) (cut_one _ _ _ _) (by rw [vl_agg, cut_size]; rfl) ?_)
      refine S.q rfl rfl (Qt.assign (by conv => lhs; whnf)) ?_
      refine S.nil ?_
      refine TC.seq ?_
      refine TC.region ?_
      refine S.q rfl rfl (Qt.move (by conv => lhs; whnf)) ?_
      refine S.opS rfl rfl (OpV.con0 Tryd.ent70 rfl (fun w hw => Calls.ret (mkw_walkN A c xs w)) ?_)
      refine S.q rfl rfl (Qt.move (by conv => lhs; whnf)) ?_
      refine S.q rfl rfl (Qt.extract rfl rfl) ?_
      refine S.q rfl rfl (Qt.extract rfl rfl) ?_
      refine S.opS rfl rfl (OpV.alloc Tryd.zero88 (fun b17 => ?_))
      refine S.opN rfl (OpV.storeV0 rfl (by conv => lhs; whnf) (by exact Tryd.cells88) (by rfl) (by rfl) ?_)
      refine S.q rfl rfl (Qt.assign (by conv => lhs; whnf)) ?_
      refine S.nil ?_
      refine TC.seq ?_
      refine S.draw ([], [17]) Tryd.mixed (Sub.nil _) ?_
      refine D.qX (k := 0) rfl (by kernel_rfl) (by kernel_rfl) (by kernel_rfl) rfl rfl (Qt.move (by conv => lhs; whnf)) ?_
      refine D.qX (k := 1) rfl (by kernel_rfl) (by kernel_rfl) (by kernel_rfl) rfl rfl (Qt.eqnil_nil Tryd.underlying27 rfl) ?_
      refine D.qX (k := 2) rfl (by kernel_rfl) (by kernel_rfl) (by kernel_rfl) rfl rfl (Qt.move (by conv => lhs; whnf)) ?_
      refine D.qgX (k := 3) rfl (by kernel_rfl) (by kernel_rfl) (by kernel_rfl) rfl rfl rfl (Qt.field Tryd.underlying64 rfl Tryd.cells23 rfl) ?_
      refine D.qgX (k := 4) rfl (by kernel_rfl) (by kernel_rfl) (by kernel_rfl) rfl rfl rfl (Qt.load rfl (Ld.row (vs := hvl (getT E ms (0, (xs.getD 0 0) - 1))) (Has.at 2 rfl) Tryd.row23 (by rw [hvl_length]; exact Tryd.cells23) (cut_leaf (getT E ms (0, (xs.getD 0 0) - 1)) _))) ?_
      refine D.qgX (k := 5) rfl (by kernel_rfl) (by kernel_rfl) (by kernel_rfl) rfl rfl rfl (Qt.load rfl (Ld.all (vs := vl (.agg #[.int .i64 (height : Int), .slice Al ls.length cl, .slice O 33 d])) (Has.at 5 rfl) Tryd.row52 Tryd.cells52)) ?_
      refine D.qgX (k := 6) rfl (by kernel_rfl) (by kernel_rfl) (by kernel_rfl) rfl rfl rfl (Qt.move (by conv => lhs; whnf)) ?_
      refine D.qgX (k := 7) rfl (by kernel_rfl) (by kernel_rfl) (by kernel_rfl) rfl rfl rfl (Qt.sub (b := 1) rfl rfl (by omega) (by simp only [kmax]; omega)) ?_
      refine D.cgX (k := 8) rfl (by kernel_rfl) (by kernel_rfl) (by kernel_rfl) rfl rfl rfl (CalU.con0 Tryd.ent36 rfl (fun w hw => rnode_R E hE height hh ls Al cl O d 0 ((xs.getD 0 0) - 1) (ok0 hb) w (by omega) hlowl (Rd.own (Rd.at 8 rfl) w hw) (Rd.own (Rd.at 9 rfl) w hw) (hT2.at hw))) ?_
      refine D.qgX (k := 9) rfl (by kernel_rfl) (by kernel_rfl) (by kernel_rfl) rfl rfl rfl (Qt.dT (Qt.eqH (a := getT E ms (0, (xs.getD 0 0) - 1)) (b := nodeH (fL E ls) 0 ((xs.getD 0 0) - 1)) Tryd.guard23 Tryd.underlying23 Tryd.underlying5 Tryd.cells5 rfl rfl) (ht.get _ (ok0 hb))) ?_
      refine D.qX (k := 10) rfl (by kernel_rfl) (by kernel_rfl) (by kernel_rfl) rfl rfl (Qt.pick_t rfl (by conv => lhs; whnf)) ?_
      refine D.qX (k := 11) rfl (by kernel_rfl) (by kernel_rfl) (by kernel_rfl) rfl rfl (Qt.move (by conv => lhs; whnf)) ?_
      refine D.qgX (k := 12) rfl (by kernel_rfl) (by kernel_rfl) (by kernel_rfl) rfl rfl rfl (Qt.field Tryd.underlying64 rfl Tryd.cells44 rfl) ?_
      refine D.qgX (k := 13) rfl (by kernel_rfl) (by kernel_rfl) (by kernel_rfl) rfl rfl rfl (Qt.load rfl (Ld.one (v := .slice O1 height d1) (Has.at 2 rfl) Tryd.one44 (cut_path (getT E ms (0, (xs.getD 0 0) - 1)) _))) ?_
      refine D.qgX (k := 14) rfl (by kernel_rfl) (by kernel_rfl) (by kernel_rfl) rfl rfl rfl (Qt.load rfl (Ld.all (vs := vl (.agg #[.int .i64 (height : Int), .slice Al ls.length cl, .slice O 33 d])) (Has.at 5 rfl) Tryd.row52 Tryd.cells52)) ?_
      refine D.qgX (k := 15) rfl (by kernel_rfl) (by kernel_rfl) (by kernel_rfl) rfl rfl rfl (Qt.move (by conv => lhs; whnf)) ?_
      refine D.qgX (k := 16) rfl (by kernel_rfl) (by kernel_rfl) (by kernel_rfl) rfl rfl rfl (Qt.sub (b := 1) rfl rfl (by omega) (by simp only [kmax]; omega)) ?_
      refine D.ng (k := 17) (Sub.nil _) rfl (by kernel_rfl) (by kernel_rfl) rfl rfl rfl (OpV.con (Pre := []) (R := _) Tryd.ent38 rfl (List.Perm.refl _) (fun w hw => rpath_walk E hE height hh ls Al cl O d ((xs.getD 0 0) - 1) hb w (by omega) hlowl (Rd.own (Rd.at 8 rfl) w hw) (Rd.own (Rd.at 9 rfl) w hw) (hT2.at hw)) ?_)
      rintro v L' ⟨P, q, rfl, rfl⟩
      refine ⟨Sub.drop _ (Sub.keep _ (Sub.keep _ (Sub.keep _ (Sub.keep _ (Sub.keep _ (Sub.keep _ (Sub.keep _ (Sub.keep _ (Sub.keep _ (Sub.keep _ (Sub.nil []))))))))))), ?_⟩
      refine D.cgX (k := 18) rfl (by kernel_rfl) (by kernel_rfl) (by kernel_rfl) rfl rfl rfl (CalU.con0 Tryd.ent37 rfl (fun w hw => (by have h := hashes_R O1 d1 P q (pathH (fL E ls) height ((xs.getD 0 0) - 1)) (by rw [pathH_length]; omega) w (by rw [← pathT_ok ht hb]; exact (Rd.own (Rd.at 4 rfl) w hw)) (Rd.own (Rd.at 0 rfl) w hw); rw [pathH_length] at h; exact h : Calls Tryd.prog 37 #[.slice O1 height d1, .slice P height q] w (Ret w (.bool true))))) ?_
      refine D.qX (k := 19) rfl (by kernel_rfl) (by kernel_rfl) (by kernel_rfl) rfl rfl (Qt.pick_t rfl (by conv => lhs; whnf)) ?_
      refine D.qX (k := 20) rfl (by kernel_rfl) (by kernel_rfl) (by kernel_rfl) rfl rfl (Qt.move (by conv => lhs; whnf)) ?_
      refine D.qgX (k := 21) rfl (by kernel_rfl) (by kernel_rfl) (by kernel_rfl) rfl rfl rfl (Qt.move (by conv => lhs; whnf)) ?_
      refine D.cgX (k := 22) rfl (by kernel_rfl) (by kernel_rfl) (by kernel_rfl) rfl rfl rfl (CalU.con0 Tryd.ent35 rfl (fun w hw => is11 w)) ?_
      refine D.qX (k := 23) rfl (by kernel_rfl) (by kernel_rfl) (by kernel_rfl) rfl rfl (Qt.pick_t rfl (by conv => lhs; whnf)) ?_
      refine D.qX (k := 24) rfl (by kernel_rfl) (by kernel_rfl) (by kernel_rfl) rfl rfl (Qt.move (by conv => lhs; whnf)) ?_
      refine D.qgX (k := 25) rfl (by kernel_rfl) (by kernel_rfl) (by kernel_rfl) rfl rfl rfl (Qt.move (by conv => lhs; whnf)) ?_
      refine D.cgX (k := 26) rfl (by kernel_rfl) (by kernel_rfl) (by kernel_rfl) rfl rfl rfl (CalU.con0 Tryd.ent35 rfl (fun w hw => is11 w)) ?_
      refine D.qX (k := 27) rfl (by kernel_rfl) (by kernel_rfl) (by kernel_rfl) rfl rfl (Qt.pick_t rfl (by conv => lhs; whnf)) ?_
      refine D.qX (k := 28) rfl (by kernel_rfl) (by kernel_rfl) (by kernel_rfl) rfl rfl (Qt.assign (by conv => lhs; whnf)) ?_
      refine D.done (Sub.nil _) (by kernel_rfl) ?_
      refine TC.ret ?_
      refine finQ.ret (RVs.tmp (by conv => lhs; whnf) RVs.nil) (Sub.nil _) ?_
      exact ⟨rfl, rfl⟩
set_option maxHeartbeats 3200000 in
theorem law13b_walk (E : Nat → H32) (hEm : ∀ w, Tabs 2 0 w [] → Calls Tryd.prog 88 #[] w (Ret w (.agg (hcs (emptL E)).toArray))) (hE : ∀ h, E (h + 1) = joinH (h + 1) (E h) (E h)) (hEr : ∀ w, Tabs 3 1 w [] → Calls Tryd.prog 90 #[] w (Post w [] fun v L => ∃ O d, v = .slice O 33 d ∧ L = [OwnA 23 32 O 33 d (hcs (emptL E))])) (hne : E 0 ≠ E 1) (height : Nat) (hh : height ≤ 32) (A0 : Option Addr) (c0 : Nat) (zs : List Go.E.Act) (hzs : zs.length ≤ 25) (A : Option Addr) (c : Nat) (xs : List Nat) (hc : xs.length ≤ c) (hx40 : xs.length ≤ 40) (hpos : xs.length = 0) (w0 : World) (hZ : Ro w0 [] (SlA A0 (zs.flatMap actL))) (hlow : ∀ x ∈ xs, x < 18446744073709551616) (hR : Ro w0 [] (SlA A (u64s xs))) (hT : Tabs 2 0 w0 []) (hT2 : Tabs 3 1 w0 []) :
    Calls Tryd.prog 13 #[.int .i64 (height : Int), .slice A0 zs.length c0, .slice A xs.length c] w0 (Post w0 [] fun v L => v = .bool true ∧ L = []) := by
  refine Calls.of (L := []) (n := 163) (rs := [.tmp 6]) Tryd.func13 rfl rfl rfl (Nat.le_of_ble_eq_true rfl) (Sat.nil _) ?_
  have hb64 : (zs.length) < 18446744073709551616 := by omega
  refine TC.seq ?_
  refine TC.region ?_
  refine S.q rfl rfl (Qt.assign (by conv => lhs; whnf)) ?_
  refine S.nil ?_
  refine TC.seq ?_
  refine TC.seq ?_
  refine TC.region ?_
  refine S.opS rfl rfl (OpV.con0 Tryd.ent21 rfl (fun w hw => Calls.ret (alive12_walk E hEm hne w (hT.at hw))) ?_)
  refine S.q rfl rfl (Qt.not_t rfl) ?_
  refine S.nil ?_
  refine S.if_f rfl ?_
  refine TC.skip ?_
  refine TC.seq ?_
  refine TC.seq ?_
  refine TC.region ?_
  refine S.q rfl rfl (Qt.move (by conv => lhs; whnf)) ?_
  refine S.q rfl rfl (Qt.len_slice Tryd.underlying71 rfl) ?_
  refine S.q rfl rfl (Qt.dF (Qt.gt (b := 40) rfl rfl) (by omega)) ?_
  refine S.nil ?_
  refine S.if_f rfl ?_
  refine TC.skip ?_
  refine TC.seq ?_
  refine TC.region ?_
  refine S.q rfl rfl (Qt.move (by conv => lhs; whnf)) ?_
  refine S.q rfl rfl (Qt.move (by conv => lhs; whnf)) ?_
  refine S.opS rfl rfl (OpV.con (Pre := []) (R := _) Tryd.ent32 rfl (List.Perm.refl _) (fun w hw => both_walk E hEm hE hEr height hh A0 c0 zs hzs w (Rd.ro hZ w hw) (hT.at hw) (hT2.at hw)) ?_)
  rintro v L' ⟨tb, mb, ms, ls, Al, cl, O, d, rfl, rfl, ht, hll, hlowl⟩
  refine S.q rfl rfl (Qt.move (by conv => lhs; whnf)) ?_
  refine S.q rfl rfl (Qt.extract rfl rfl) ?_
  refine S.q rfl rfl (Qt.extract rfl rfl) ?_
  refine S.q rfl rfl (Qt.extract rfl rfl) ?_
  refine S.q rfl rfl (Qt.extract rfl rfl) ?_
  refine S.opS rfl rfl (OpV.alloc Tryd.zero52 (fun b8 => ?_))
  refine S.q rfl rfl (Qt.assign (by conv => lhs; whnf)) ?_
  refine S.opN rfl (OpV.storeV0 rfl (by conv => lhs; whnf) (by exact Tryd.cells52) (by rfl) (by rfl) ?_)
  refine S.q rfl rfl (Qt.assign (by conv => lhs; whnf)) ?_
  refine S.q rfl rfl (Qt.assign (by conv => lhs; whnf)) ?_
  refine S.nil ?_
  refine TC.seq ?_
  refine TC.seq ?_
  refine TC.region ?_
  refine S.q rfl rfl (Qt.move (by conv => lhs; whnf)) ?_
  refine S.q rfl rfl (Qt.not_t rfl) ?_
  refine S.q rfl rfl (Qt.move (by conv => lhs; whnf)) ?_
  refine S.qg rfl rfl rfl (Qt.move (by conv => lhs; whnf)) ?_
  refine S.qg rfl rfl rfl (Qt.not_t rfl) ?_
  refine S.q rfl rfl (Qt.pick_f rfl (by conv => lhs; whnf)) ?_
  refine S.nil ?_
  refine S.if_f rfl ?_
  refine TC.skip ?_
  refine TC.seq ?_
  refine TC.region ?_
  refine S.q rfl rfl (Qt.move (by conv => lhs; whnf)) ?_
  refine S.q rfl rfl (Qt.move (by conv => lhs; whnf)) ?_
  have hi : ¬ idxOk height xs := fun h => by have := h.1; omega
  refine S.opS rfl rfl (OpV.con0 Tryd.ent70 rfl (fun w hw => Calls.ret (mkw_walkF E tb mb height ms hh A c xs hi w (Rd.at 1 rfl w hw) (Rd.at 2 rfl w hw) hlow (Rd.ro hR w hw))) ?_)
  refine S.q rfl rfl (Qt.move (by conv => lhs; whnf)) ?_
  refine S.q rfl rfl (Qt.extract rfl rfl) ?_
  refine S.q rfl rfl (Qt.extract rfl rfl) ?_
  refine S.opS rfl rfl (OpV.alloc Tryd.zero88 (fun b11 => ?_))
  refine S.opN rfl (OpV.storeV0 rfl (by conv => lhs; whnf) (by exact Tryd.cells88) (by rfl) (by rfl) ?_)
  refine S.q rfl rfl (Qt.assign (by conv => lhs; whnf)) ?_
  refine S.nil ?_
  refine TC.seq ?_
  refine TC.seq ?_
  refine TC.region ?_
  refine S.q rfl rfl (Qt.move (by conv => lhs; whnf)) ?_
  refine S.q rfl rfl (Qt.move (by conv => lhs; whnf)) ?_
  refine S.opS rfl rfl (OpV.con0 Tryd.ent66 rfl (fun w hw => rright10_F height hh A c xs hi w hlow (Rd.ro hR w hw)) ?_)
  refine S.q rfl rfl (Qt.not_f rfl) ?_
  refine S.nil ?_
  refine S.if_t rfl ?_
  refine TC.seq ?_
  refine TC.region ?_
  refine S.q rfl rfl (Qt.move (by conv => lhs; whnf)) ?_
  refine S.opS rfl rfl (OpV.con0 Tryd.ent35 rfl (fun w hw => is1 w) ?_)
  refine S.q rfl rfl (Qt.not_t rfl) ?_
  refine S.q rfl rfl (Qt.move (by conv => lhs; whnf)) ?_
  refine S.qg rfl rfl rfl (Qt.field Tryd.underlying88 rfl Tryd.cells71 rfl) ?_
  refine S.qg rfl rfl rfl (Qt.load rfl (Ld.one (Has.at 0 rfl) Tryd.one71 (rfl))) ?_
  refine S.qg rfl rfl rfl (Qt.len_slice Tryd.underlying71 rfl) ?_
  refine S.qg rfl rfl rfl (Qt.field Tryd.underlying88 rfl Tryd.cells44 rfl) ?_
  refine S.qg rfl rfl rfl (Qt.load rfl (Ld.one (Has.at 0 rfl) Tryd.one44 (rfl))) ?_
  refine S.qg rfl rfl rfl (Qt.len_slice Tryd.underlying44 rfl) ?_
  refine S.qg rfl rfl rfl (Qt.add rfl rfl (by simp only [kmax]; omega)) ?_
  refine S.qg rfl rfl rfl (Qt.field Tryd.underlying88 rfl Tryd.cells44 rfl) ?_
  refine S.qg rfl rfl rfl (Qt.load rfl (Ld.one (Has.at 0 rfl) Tryd.one44 (rfl))) ?_
  refine S.qg rfl rfl rfl (Qt.len_slice Tryd.underlying44 rfl) ?_
  refine S.qg rfl rfl rfl (Qt.add rfl rfl (by simp only [kmax]; omega)) ?_
  refine S.qg rfl rfl rfl (Qt.dF (Qt.gt (b := 0) rfl rfl) (by omega)) ?_
  refine S.q rfl rfl (Qt.pick_f rfl (by conv => lhs; whnf)) ?_
  refine S.nil ?_
  refine S.if_f rfl ?_
  refine TC.skip ?_
  refine TC.seq ?_
  refine TC.region ?_
  refine S.q rfl rfl (Qt.move (by conv => lhs; whnf)) ?_
  refine S.q rfl rfl (Qt.len_slice Tryd.underlying34 rfl) ?_
  refine S.q rfl rfl (Qt.convert Tryd.underlying3 Tryd.underlying24 rfl (by simp only [kmax]; omega)) ?_
  refine S.q rfl rfl (Qt.assign (by conv => lhs; whnf)) ?_
  refine S.nil ?_
  refine TC.seq ?_
  refine TC.seq ?_
  refine TC.region ?_
  refine S.q rfl rfl (Qt.move (by conv => lhs; whnf)) ?_
  refine S.q rfl rfl (Qt.len_slice Tryd.underlying71 rfl) ?_
  refine S.q rfl rfl (Qt.dF (Qt.gt (b := 0) rfl rfl) (by omega)) ?_
  refine S.nil ?_
  refine S.if_f rfl ?_
  refine TC.skip ?_
  refine TC.seq ?_
  refine TC.region ?_
  refine S.q rfl rfl (Qt.move (by conv => lhs; whnf)) ?_
  refine S.q rfl rfl (Qt.move (by conv => lhs; whnf)) ?_
  rcases cut_cases (zs.length) height with hb0 | ⟨h1, hb⟩ | ⟨h1, hb⟩
  · refine S.opS rfl rfl (OpV.con0 Tryd.ent72 rfl (fun w hw => Calls.ret (mkc_walk0 E tb mb height ms hh (zs.length) hb0 w (Rd.at 2 rfl w hw) (Rd.at 3 rfl w hw))) ?_)
    refine S.q rfl rfl (Qt.move (by conv => lhs; whnf)) ?_
    refine S.q rfl rfl (Qt.extract rfl rfl) ?_
    refine S.q rfl rfl (Qt.extract rfl rfl) ?_
    refine S.opS rfl rfl (OpV.alloc Tryd.zero64 (fun b14 => ?_))
    refine S.opN rfl (OpV.storeV0 (v := .agg (hvl (zeroH) ++ [Value.slice none 0 0]).toArray) rfl rfl (by rw [vl_agg, cut_size]; exact Tryd.cells64) (cut_one _ _ _ _) (by rw [vl_agg, cut_size]; rfl) ?_)
    refine S.q rfl rfl (Qt.assign (by conv => lhs; whnf)) ?_
    refine S.nil ?_
    refine TC.seq ?_
    refine TC.seq ?_
    refine TC.region ?_
    refine S.q rfl rfl (Qt.move (by conv => lhs; whnf)) ?_
    refine S.q rfl rfl (Qt.dT (Qt.eq (a := (zs.length)) (b := 0) rfl rfl) hb0) ?_
    refine S.q rfl rfl (Qt.move (by conv => lhs; whnf)) ?_
    refine S.pass rfl rfl ?_
    refine S.pass rfl rfl ?_
    refine S.pass rfl rfl ?_
    refine S.pass rfl rfl ?_
    refine S.pass rfl rfl ?_
    refine S.q rfl rfl (Qt.pick_t rfl (by conv => lhs; whnf)) ?_
    refine S.nil ?_
    refine S.if_t rfl ?_
    refine TC.seq ?_
    refine TC.region ?_
    refine S.q rfl rfl (Qt.move (by conv => lhs; whnf)) ?_
    refine S.opS rfl rfl (OpV.con0 Tryd.ent35 rfl (fun w hw => is1 w) ?_)
    refine S.q rfl rfl (Qt.move (by conv => lhs; whnf)) ?_
    refine S.qg rfl rfl rfl (Qt.field Tryd.underlying64 rfl Tryd.cells44 rfl) ?_
    refine S.qg rfl rfl rfl (Qt.load rfl (Ld.one (v := .slice none 0 0) (Has.at 0 rfl) Tryd.one44 (cut_path zeroH _))) ?_
    refine S.qg rfl rfl rfl (Qt.len_slice Tryd.underlying44 rfl) ?_
    refine S.qg rfl rfl rfl (Qt.dT (Qt.eq (b := 0) rfl rfl) (rfl)) ?_
    refine S.q rfl rfl (Qt.pick_t rfl (by conv => lhs; whnf)) ?_
    refine S.q rfl rfl (Qt.assign (by conv => lhs; whnf)) ?_
    refine S.nil ?_
    refine TC.ret ?_
    refine finQ.ret (RVs.tmp (by conv => lhs; whnf) RVs.nil) (Sub.nil _) ?_
    exact ⟨rfl, rfl⟩
  · refine S.opS rfl rfl (OpV.con0 Tryd.ent72 rfl (fun w hw => Calls.ret (mkc_walkF E tb mb height ms hh (zs.length) hb64 h1 hb w (Rd.at 2 rfl w hw) (Rd.at 3 rfl w hw))) ?_)
    refine S.q rfl rfl (Qt.move (by conv => lhs; whnf)) ?_
    refine S.q rfl rfl (Qt.extract rfl rfl) ?_
    refine S.q rfl rfl (Qt.extract rfl rfl) ?_
    refine S.opS rfl rfl (OpV.alloc Tryd.zero64 (fun b14 => ?_))
    refine S.opN rfl (OpV.storeV0 (v := .agg (hvl (zeroH) ++ [Value.slice none 0 0]).toArray) rfl rfl (by rw [vl_agg, cut_size]; exact Tryd.cells64) (cut_one _ _ _ _) (by rw [vl_agg, cut_size]; rfl) ?_)
    refine S.q rfl rfl (Qt.assign (by conv => lhs; whnf)) ?_
    refine S.nil ?_
    refine TC.seq ?_
    refine TC.seq ?_
    refine TC.region ?_
    refine S.q rfl rfl (Qt.move (by conv => lhs; whnf)) ?_
    refine S.q rfl rfl (Qt.dF (Qt.eq (a := (zs.length)) (b := 0) rfl rfl) (by omega)) ?_
    refine S.q rfl rfl (Qt.move (by conv => lhs; whnf)) ?_
    refine S.qg rfl rfl rfl (Qt.load rfl (Ld.all (vs := vl (.agg #[.int .i64 (height : Int), .slice Al ls.length cl, .slice O 33 d])) (Has.at 2 rfl) Tryd.row52 Tryd.cells52)) ?_
    refine S.qg rfl rfl rfl (Qt.move (by conv => lhs; whnf)) ?_
    refine S.qg rfl rfl rfl (Qt.sub (b := 1) rfl rfl (by omega) (by simp only [kmax]; omega)) ?_
    refine S.opg rfl rfl rfl (OpV.con0 Tryd.ent34 rfl (fun w hw => rhas_F height 0 ((zs.length) - 1) hh (by omega) (not_ok0 hb) Al ls.length cl O d w) ?_)
    refine S.qg rfl rfl rfl (Qt.not_f rfl) ?_
    refine S.q rfl rfl (Qt.pick_f rfl (by conv => lhs; whnf)) ?_
    refine S.nil ?_
    refine S.if_t rfl ?_
    refine TC.seq ?_
    refine TC.region ?_
    refine S.q rfl rfl (Qt.move (by conv => lhs; whnf)) ?_
    refine S.opS rfl rfl (OpV.con0 Tryd.ent35 rfl (fun w hw => is1 w) ?_)
    refine S.q rfl rfl (Qt.move (by conv => lhs; whnf)) ?_
    refine S.qg rfl rfl rfl (Qt.field Tryd.underlying64 rfl Tryd.cells44 rfl) ?_
    refine S.qg rfl rfl rfl (Qt.load rfl (Ld.one (v := .slice none 0 0) (Has.at 0 rfl) Tryd.one44 (cut_path zeroH _))) ?_
    refine S.qg rfl rfl rfl (Qt.len_slice Tryd.underlying44 rfl) ?_
    refine S.qg rfl rfl rfl (Qt.dT (Qt.eq (b := 0) rfl rfl) (rfl)) ?_
    refine S.q rfl rfl (Qt.pick_t rfl (by conv => lhs; whnf)) ?_
    refine S.q rfl rfl (Qt.assign (by conv => lhs; whnf)) ?_
    refine S.nil ?_
    refine TC.ret ?_
    refine finQ.ret (RVs.tmp (by conv => lhs; whnf) RVs.nil) (Sub.nil _) ?_
    exact ⟨rfl, rfl⟩
  · refine S.opS rfl rfl (OpV.con (Pre := []) (R := _) Tryd.ent72 rfl (List.Perm.refl _) (fun w hw => mkc_walk E tb mb height ms hh (zs.length) h1 hb w (Rd.at 2 rfl w hw) (Rd.at 3 rfl w hw)) ?_)
    rintro v L' ⟨O1, d1, rfl, rfl⟩
    refine S.q rfl rfl (Qt.move (by conv => lhs; whnf)) ?_
    refine S.q rfl rfl (Qt.extract rfl rfl) ?_
    refine S.q rfl rfl (Qt.extract rfl rfl) ?_
    refine S.opS rfl rfl (OpV.alloc Tryd.zero64 (fun b14 => ?_))
    refine S.opN rfl (OpV.storeV0 (v := .agg (hvl (getT E ms (0, (zs.length) - 1)) ++ [Value.slice O1 height d1]).toArray) rfl rfl (by rw [vl_agg, cut_size]; exact Tryd.cells64) (cut_one _ _ _ _) (by rw [vl_agg, cut_size]; rfl) ?_)
    refine S.q rfl rfl (Qt.assign (by conv => lhs; whnf)) ?_
    refine S.nil ?_
    refine TC.seq ?_
    refine TC.seq ?_
    refine TC.region ?_
    refine S.q rfl rfl (Qt.move (by conv => lhs; whnf)) ?_
    refine S.q rfl rfl (Qt.dF (Qt.eq (a := (zs.length)) (b := 0) rfl rfl) (by omega)) ?_
    refine S.q rfl rfl (Qt.move (by conv => lhs; whnf)) ?_
    refine S.qg rfl rfl rfl (Qt.load rfl (Ld.all (vs := vl (.agg #[.int .i64 (height : Int), .slice Al ls.length cl, .slice O 33 d])) (Has.at 3 rfl) Tryd.row52 Tryd.cells52)) ?_
    refine S.qg rfl rfl rfl (Qt.move (by conv => lhs; whnf)) ?_
    refine S.qg rfl rfl rfl (Qt.sub (b := 1) rfl rfl (by omega) (by simp only [kmax]; omega)) ?_
    refine S.opg rfl rfl rfl (OpV.con0 Tryd.ent34 rfl (fun w hw => rhas_T height 0 ((zs.length) - 1) hh (ok0 hb) Al ls.length cl O d w) ?_)
    refine S.qg rfl rfl rfl (Qt.not_t rfl) ?_
    refine S.q rfl rfl (Qt.pick_f rfl (by conv => lhs; whnf)) ?_
    refine S.nil ?_
    refine S.if_f rfl ?_
    refine TC.skip ?_
    refine TC.seq ?_
    refine TC.region ?_
    refine S.q rfl rfl (Qt.move (by conv => lhs; whnf)) ?_
    refine S.opS rfl rfl (OpV.con0 Tryd.ent72 rfl (fun w hw => Calls.ret (mkc_walkN (zs.length) h1 hb64 w)) ?_)
    refine S.q rfl rfl (Qt.move (by conv => lhs; whnf)) ?_
    refine S.q rfl rfl (Qt.extract rfl rfl) ?_
    refine S.q rfl rfl (Qt.extract rfl rfl) ?_
    refine S.opS rfl rfl (OpV.alloc Tryd.zero64 (fun b15 => ?_))
    refine S.opN rfl (OpV.storeV0 (v := .agg (hvl (zeroH) ++ [Value.slice none 0 0]).toArray) rfl rfl (by rw [vl_agg, cut_size]; exact Tryd.cells64) (cut_one _ _ _ _) (by rw [vl_agg, cut_size]; rfl) ?_)
    refine S.q rfl rfl (Qt.assign (by conv => lhs; whnf)) ?_
    refine S.nil ?_
    refine TC.seq ?_
    refine TC.region ?_
    refine S.q rfl rfl (Qt.move (by conv => lhs; whnf)) ?_
    refine S.opS rfl rfl (OpV.con0 Tryd.ent70 rfl (fun w hw => Calls.ret (mkw_walkN A c xs w)) ?_)
    refine S.q rfl rfl (Qt.move (by conv => lhs; whnf)) ?_
    refine S.q rfl rfl (Qt.extract rfl rfl) ?_
    refine S.q rfl rfl (Qt.extract rfl rfl) ?_
    refine S.opS rfl rfl (OpV.alloc Tryd.zero88 (fun b17 => ?_))
    refine S.opN rfl (OpV.storeV0 rfl (by conv => lhs; whnf) (by exact Tryd.cells88) (by rfl) (by rfl) ?_)
    refine S.q rfl rfl (Qt.assign (by conv => lhs; whnf)) ?_
    refine S.nil ?_
    refine TC.seq ?_
    refine S.draw ([], [17]) Tryd.mixed (Sub.nil _) ?_
    refine D.qX (k := 0) rfl (by kernel_rfl) (by kernel_rfl) (by kernel_rfl) rfl rfl (Qt.move (by conv => lhs; whnf)) ?_
    refine D.qX (k := 1) rfl (by kernel_rfl) (by kernel_rfl) (by kernel_rfl) rfl rfl (Qt.eqnil_nil Tryd.underlying27 rfl) ?_
    refine D.qX (k := 2) rfl (by kernel_rfl) (by kernel_rfl) (by kernel_rfl) rfl rfl (Qt.move (by conv => lhs; whnf)) ?_
    refine D.qgX (k := 3) rfl (by kernel_rfl) (by kernel_rfl) (by kernel_rfl) rfl rfl rfl (Qt.field Tryd.underlying64 rfl Tryd.cells23 rfl) ?_
    refine D.qgX (k := 4) rfl (by kernel_rfl) (by kernel_rfl) (by kernel_rfl) rfl rfl rfl (Qt.load rfl (Ld.row (vs := hvl (getT E ms (0, (zs.length) - 1))) (Has.at 2 rfl) Tryd.row23 (by rw [hvl_length]; exact Tryd.cells23) (cut_leaf (getT E ms (0, (zs.length) - 1)) _))) ?_
    refine D.qgX (k := 5) rfl (by kernel_rfl) (by kernel_rfl) (by kernel_rfl) rfl rfl rfl (Qt.load rfl (Ld.all (vs := vl (.agg #[.int .i64 (height : Int), .slice Al ls.length cl, .slice O 33 d])) (Has.at 5 rfl) Tryd.row52 Tryd.cells52)) ?_
    refine D.qgX (k := 6) rfl (by kernel_rfl) (by kernel_rfl) (by kernel_rfl) rfl rfl rfl (Qt.move (by conv => lhs; whnf)) ?_
    refine D.qgX (k := 7) rfl (by kernel_rfl) (by kernel_rfl) (by kernel_rfl) rfl rfl rfl (Qt.sub (b := 1) rfl rfl (by omega) (by simp only [kmax]; omega)) ?_
    refine D.cgX (k := 8) rfl (by kernel_rfl) (by kernel_rfl) (by kernel_rfl) rfl rfl rfl (CalU.con0 Tryd.ent36 rfl (fun w hw => rnode_R E hE height hh ls Al cl O d 0 ((zs.length) - 1) (ok0 hb) w (by omega) hlowl (Rd.own (Rd.at 8 rfl) w hw) (Rd.own (Rd.at 9 rfl) w hw) (hT2.at hw))) ?_
    refine D.qgX (k := 9) rfl (by kernel_rfl) (by kernel_rfl) (by kernel_rfl) rfl rfl rfl (Qt.dT (Qt.eqH (a := getT E ms (0, (zs.length) - 1)) (b := nodeH (fL E ls) 0 ((zs.length) - 1)) Tryd.guard23 Tryd.underlying23 Tryd.underlying5 Tryd.cells5 rfl rfl) (ht.get _ (ok0 hb))) ?_
    refine D.qX (k := 10) rfl (by kernel_rfl) (by kernel_rfl) (by kernel_rfl) rfl rfl (Qt.pick_t rfl (by conv => lhs; whnf)) ?_
    refine D.qX (k := 11) rfl (by kernel_rfl) (by kernel_rfl) (by kernel_rfl) rfl rfl (Qt.move (by conv => lhs; whnf)) ?_
    refine D.qgX (k := 12) rfl (by kernel_rfl) (by kernel_rfl) (by kernel_rfl) rfl rfl rfl (Qt.field Tryd.underlying64 rfl Tryd.cells44 rfl) ?_
    refine D.qgX (k := 13) rfl (by kernel_rfl) (by kernel_rfl) (by kernel_rfl) rfl rfl rfl (Qt.load rfl (Ld.one (v := .slice O1 height d1) (Has.at 2 rfl) Tryd.one44 (cut_path (getT E ms (0, (zs.length) - 1)) _))) ?_
    refine D.qgX (k := 14) rfl (by kernel_rfl) (by kernel_rfl) (by kernel_rfl) rfl rfl rfl (Qt.load rfl (Ld.all (vs := vl (.agg #[.int .i64 (height : Int), .slice Al ls.length cl, .slice O 33 d])) (Has.at 5 rfl) Tryd.row52 Tryd.cells52)) ?_
    refine D.qgX (k := 15) rfl (by kernel_rfl) (by kernel_rfl) (by kernel_rfl) rfl rfl rfl (Qt.move (by conv => lhs; whnf)) ?_
    refine D.qgX (k := 16) rfl (by kernel_rfl) (by kernel_rfl) (by kernel_rfl) rfl rfl rfl (Qt.sub (b := 1) rfl rfl (by omega) (by simp only [kmax]; omega)) ?_
    refine D.ng (k := 17) (Sub.nil _) rfl (by kernel_rfl) (by kernel_rfl) rfl rfl rfl (OpV.con (Pre := []) (R := _) Tryd.ent38 rfl (List.Perm.refl _) (fun w hw => rpath_walk E hE height hh ls Al cl O d ((zs.length) - 1) hb w (by omega) hlowl (Rd.own (Rd.at 8 rfl) w hw) (Rd.own (Rd.at 9 rfl) w hw) (hT2.at hw)) ?_)
    rintro v L' ⟨P, q, rfl, rfl⟩
    refine ⟨Sub.drop _ (Sub.keep _ (Sub.keep _ (Sub.keep _ (Sub.keep _ (Sub.keep _ (Sub.keep _ (Sub.keep _ (Sub.keep _ (Sub.keep _ (Sub.keep _ (Sub.nil []))))))))))), ?_⟩
    refine D.cgX (k := 18) rfl (by kernel_rfl) (by kernel_rfl) (by kernel_rfl) rfl rfl rfl (CalU.con0 Tryd.ent37 rfl (fun w hw => (by have h := hashes_R O1 d1 P q (pathH (fL E ls) height ((zs.length) - 1)) (by rw [pathH_length]; omega) w (by rw [← pathT_ok ht hb]; exact (Rd.own (Rd.at 4 rfl) w hw)) (Rd.own (Rd.at 0 rfl) w hw); rw [pathH_length] at h; exact h : Calls Tryd.prog 37 #[.slice O1 height d1, .slice P height q] w (Ret w (.bool true))))) ?_
    refine D.qX (k := 19) rfl (by kernel_rfl) (by kernel_rfl) (by kernel_rfl) rfl rfl (Qt.pick_t rfl (by conv => lhs; whnf)) ?_
    refine D.qX (k := 20) rfl (by kernel_rfl) (by kernel_rfl) (by kernel_rfl) rfl rfl (Qt.move (by conv => lhs; whnf)) ?_
    refine D.qgX (k := 21) rfl (by kernel_rfl) (by kernel_rfl) (by kernel_rfl) rfl rfl rfl (Qt.move (by conv => lhs; whnf)) ?_
    refine D.cgX (k := 22) rfl (by kernel_rfl) (by kernel_rfl) (by kernel_rfl) rfl rfl rfl (CalU.con0 Tryd.ent35 rfl (fun w hw => is11 w)) ?_
    refine D.qX (k := 23) rfl (by kernel_rfl) (by kernel_rfl) (by kernel_rfl) rfl rfl (Qt.pick_t rfl (by conv => lhs; whnf)) ?_
    refine D.qX (k := 24) rfl (by kernel_rfl) (by kernel_rfl) (by kernel_rfl) rfl rfl (Qt.move (by conv => lhs; whnf)) ?_
    refine D.qgX (k := 25) rfl (by kernel_rfl) (by kernel_rfl) (by kernel_rfl) rfl rfl rfl (Qt.move (by conv => lhs; whnf)) ?_
    refine D.cgX (k := 26) rfl (by kernel_rfl) (by kernel_rfl) (by kernel_rfl) rfl rfl rfl (CalU.con0 Tryd.ent35 rfl (fun w hw => is11 w)) ?_
    refine D.qX (k := 27) rfl (by kernel_rfl) (by kernel_rfl) (by kernel_rfl) rfl rfl (Qt.pick_t rfl (by conv => lhs; whnf)) ?_
    refine D.qX (k := 28) rfl (by kernel_rfl) (by kernel_rfl) (by kernel_rfl) rfl rfl (Qt.assign (by conv => lhs; whnf)) ?_
    refine D.done (Sub.nil _) (by kernel_rfl) ?_
    refine TC.ret ?_
    refine finQ.ret (RVs.tmp (by conv => lhs; whnf) RVs.nil) (Sub.nil _) ?_
    exact ⟨rfl, rfl⟩
set_option maxHeartbeats 400000 in
theorem law13_walkE (E : Nat → H32) (hEm : ∀ w, Tabs 2 0 w [] → Calls Tryd.prog 88 #[] w (Ret w (.agg (hcs (emptL E)).toArray))) (hne : E 0 ≠ E 1) (z : Int) (A0 : Option Addr) (c0 : Nat) (zs : List Go.E.Act) (A : Option Addr) (c : Nat) (xs : List Nat) (hx : 40 < xs.length) (w0 : World) (hT : Tabs 2 0 w0 []) :
    Calls Tryd.prog 13 #[.int .i64 z, .slice A0 zs.length c0, .slice A xs.length c] w0 (Post w0 [] fun v L => v = .bool true ∧ L = []) := by
  refine Calls.of (L := []) (n := 163) (rs := [.tmp 6]) Tryd.func13 rfl rfl rfl (Nat.le_of_ble_eq_true rfl) (Sat.nil _) ?_
  refine TC.seq ?_
  refine TC.region ?_
  refine S.q rfl rfl (Qt.assign (by conv => lhs; whnf)) ?_
  refine S.nil ?_
  refine TC.seq ?_
  refine TC.seq ?_
  refine TC.region ?_
  refine S.opS rfl rfl (OpV.con0 Tryd.ent21 rfl (fun w hw => Calls.ret (alive12_walk E hEm hne w (hT.at hw))) ?_)
  refine S.q rfl rfl (Qt.not_t rfl) ?_
  refine S.nil ?_
  refine S.if_f rfl ?_
  refine TC.skip ?_
  refine TC.seq ?_
  refine TC.seq ?_
  refine TC.region ?_
  refine S.q rfl rfl (Qt.move (by conv => lhs; whnf)) ?_
  refine S.q rfl rfl (Qt.len_slice Tryd.underlying71 rfl) ?_
  refine S.q rfl rfl (Qt.dT (Qt.gt (b := 40) rfl rfl) (by omega)) ?_
  refine S.nil ?_
  refine S.if_t rfl ?_
  refine TC.seq ?_
  refine TC.region ?_
  refine S.q rfl rfl (Qt.assign (by conv => lhs; whnf)) ?_
  refine S.nil ?_
  refine TC.ret ?_
  refine finQ.ret (RVs.tmp (by conv => lhs; whnf) RVs.nil) (Sub.nil _) ?_
  exact ⟨rfl, rfl⟩
set_option maxHeartbeats 400000 in
theorem law13_walkL (E : Nat → H32) (hEm : ∀ w, Tabs 2 0 w [] → Calls Tryd.prog 88 #[] w (Ret w (.agg (hcs (emptL E)).toArray))) (hne : E 0 ≠ E 1) (z : Int) (A0 : Option Addr) (c0 : Nat) (zs : List Go.E.Act) (A : Option Addr) (c : Nat) (xs : List Nat) (hx : xs.length ≤ 40) (hzs : 25 < zs.length) (w0 : World) (hT : Tabs 2 0 w0 []) :
    Calls Tryd.prog 13 #[.int .i64 z, .slice A0 zs.length c0, .slice A xs.length c] w0 (Post w0 [] fun v L => v = .bool true ∧ L = []) := by
  refine Calls.of (L := []) (n := 163) (rs := [.tmp 6]) Tryd.func13 rfl rfl rfl (Nat.le_of_ble_eq_true rfl) (Sat.nil _) ?_
  refine TC.seq ?_
  refine TC.region ?_
  refine S.q rfl rfl (Qt.assign (by conv => lhs; whnf)) ?_
  refine S.nil ?_
  refine TC.seq ?_
  refine TC.seq ?_
  refine TC.region ?_
  refine S.opS rfl rfl (OpV.con0 Tryd.ent21 rfl (fun w hw => Calls.ret (alive12_walk E hEm hne w (hT.at hw))) ?_)
  refine S.q rfl rfl (Qt.not_t rfl) ?_
  refine S.nil ?_
  refine S.if_f rfl ?_
  refine TC.skip ?_
  refine TC.seq ?_
  refine TC.seq ?_
  refine TC.region ?_
  refine S.q rfl rfl (Qt.move (by conv => lhs; whnf)) ?_
  refine S.q rfl rfl (Qt.len_slice Tryd.underlying71 rfl) ?_
  refine S.q rfl rfl (Qt.dF (Qt.gt (b := 40) rfl rfl) (by omega)) ?_
  refine S.nil ?_
  refine S.if_f rfl ?_
  refine TC.skip ?_
  refine TC.seq ?_
  refine TC.region ?_
  refine S.q rfl rfl (Qt.move (by conv => lhs; whnf)) ?_
  refine S.q rfl rfl (Qt.move (by conv => lhs; whnf)) ?_
  refine S.opS rfl rfl (OpV.con0 Tryd.ent32 rfl (fun w hw => bothL_R E z A0 c0 zs hzs w) ?_)
  refine S.q rfl rfl (Qt.move (by conv => lhs; whnf)) ?_
  refine S.q rfl rfl (Qt.extract rfl rfl) ?_
  refine S.q rfl rfl (Qt.extract rfl rfl) ?_
  refine S.q rfl rfl (Qt.extract rfl rfl) ?_
  refine S.q rfl rfl (Qt.extract rfl rfl) ?_
  refine S.opS rfl rfl (OpV.alloc Tryd.zero52 (fun b8 => ?_))
  refine S.q rfl rfl (Qt.assign (by conv => lhs; whnf)) ?_
  refine S.opN rfl (OpV.storeV0 rfl (by conv => lhs; whnf) (by exact Tryd.cells52) (by rfl) (by rfl) ?_)
  refine S.q rfl rfl (Qt.assign (by conv => lhs; whnf)) ?_
  refine S.q rfl rfl (Qt.assign (by conv => lhs; whnf)) ?_
  refine S.nil ?_
  refine TC.seq ?_
  refine TC.seq ?_
  refine TC.region ?_
  refine S.q rfl rfl (Qt.move (by conv => lhs; whnf)) ?_
  refine S.q rfl rfl (Qt.not_t rfl) ?_
  refine S.q rfl rfl (Qt.move (by conv => lhs; whnf)) ?_
  refine S.qg rfl rfl rfl (Qt.move (by conv => lhs; whnf)) ?_
  refine S.qg rfl rfl rfl (Qt.not_f rfl) ?_
  refine S.q rfl rfl (Qt.pick_f rfl (by conv => lhs; whnf)) ?_
  refine S.nil ?_
  refine S.if_t rfl ?_
  refine TC.seq ?_
  refine TC.region ?_
  refine S.q rfl rfl (Qt.move (by conv => lhs; whnf)) ?_
  refine S.q rfl rfl (Qt.assign (by conv => lhs; whnf)) ?_
  refine S.nil ?_
  refine TC.ret ?_
  refine finQ.ret (RVs.tmp (by conv => lhs; whnf) RVs.nil) (Sub.nil _) ?_
  exact ⟨rfl, rfl⟩
set_option maxHeartbeats 400000 in
theorem law13_walkZ (E : Nat → H32) (hEm : ∀ w, Tabs 2 0 w [] → Calls Tryd.prog 88 #[] w (Ret w (.agg (hcs (emptL E)).toArray))) (hne : E 0 ≠ E 1) (z : Int) (A0 : Option Addr) (c0 : Nat) (zs : List Go.E.Act) (A : Option Addr) (c : Nat) (xs : List Nat) (hx : xs.length ≤ 40) (hzs : zs.length ≤ 25) (hz : z < 0 ∨ 32 < z) (w0 : World) (hT : Tabs 2 0 w0 []) :
    Calls Tryd.prog 13 #[.int .i64 z, .slice A0 zs.length c0, .slice A xs.length c] w0 (Post w0 [] fun v L => v = .bool true ∧ L = []) := by
  refine Calls.of (L := []) (n := 163) (rs := [.tmp 6]) Tryd.func13 rfl rfl rfl (Nat.le_of_ble_eq_true rfl) (Sat.nil _) ?_
  refine TC.seq ?_
  refine TC.region ?_
  refine S.q rfl rfl (Qt.assign (by conv => lhs; whnf)) ?_
  refine S.nil ?_
  refine TC.seq ?_
  refine TC.seq ?_
  refine TC.region ?_
  refine S.opS rfl rfl (OpV.con0 Tryd.ent21 rfl (fun w hw => Calls.ret (alive12_walk E hEm hne w (hT.at hw))) ?_)
  refine S.q rfl rfl (Qt.not_t rfl) ?_
  refine S.nil ?_
  refine S.if_f rfl ?_
  refine TC.skip ?_
  refine TC.seq ?_
  refine TC.seq ?_
  refine TC.region ?_
  refine S.q rfl rfl (Qt.move (by conv => lhs; whnf)) ?_
  refine S.q rfl rfl (Qt.len_slice Tryd.underlying71 rfl) ?_
  refine S.q rfl rfl (Qt.dF (Qt.gt (b := 40) rfl rfl) (by omega)) ?_
  refine S.nil ?_
  refine S.if_f rfl ?_
  refine TC.skip ?_
  refine TC.seq ?_
  refine TC.region ?_
  refine S.q rfl rfl (Qt.move (by conv => lhs; whnf)) ?_
  refine S.q rfl rfl (Qt.move (by conv => lhs; whnf)) ?_
  refine S.opS rfl rfl (OpV.con0 Tryd.ent32 rfl (fun w hw => bothZ_R E z A0 c0 zs hzs hz w) ?_)
  refine S.q rfl rfl (Qt.move (by conv => lhs; whnf)) ?_
  refine S.q rfl rfl (Qt.extract rfl rfl) ?_
  refine S.q rfl rfl (Qt.extract rfl rfl) ?_
  refine S.q rfl rfl (Qt.extract rfl rfl) ?_
  refine S.q rfl rfl (Qt.extract rfl rfl) ?_
  refine S.opS rfl rfl (OpV.alloc Tryd.zero52 (fun b8 => ?_))
  refine S.q rfl rfl (Qt.assign (by conv => lhs; whnf)) ?_
  refine S.opN rfl (OpV.storeV0 rfl (by conv => lhs; whnf) (by exact Tryd.cells52) (by rfl) (by rfl) ?_)
  refine S.q rfl rfl (Qt.assign (by conv => lhs; whnf)) ?_
  refine S.q rfl rfl (Qt.assign (by conv => lhs; whnf)) ?_
  refine S.nil ?_
  refine TC.seq ?_
  refine TC.seq ?_
  refine TC.region ?_
  refine S.q rfl rfl (Qt.move (by conv => lhs; whnf)) ?_
  refine S.q rfl rfl (Qt.not_t rfl) ?_
  refine S.q rfl rfl (Qt.move (by conv => lhs; whnf)) ?_
  refine S.qg rfl rfl rfl (Qt.move (by conv => lhs; whnf)) ?_
  refine S.qg rfl rfl rfl (Qt.not_f rfl) ?_
  refine S.q rfl rfl (Qt.pick_f rfl (by conv => lhs; whnf)) ?_
  refine S.nil ?_
  refine S.if_t rfl ?_
  refine TC.seq ?_
  refine TC.region ?_
  refine S.q rfl rfl (Qt.move (by conv => lhs; whnf)) ?_
  refine S.q rfl rfl (Qt.assign (by conv => lhs; whnf)) ?_
  refine S.nil ?_
  refine TC.ret ?_
  refine finQ.ret (RVs.tmp (by conv => lhs; whnf) RVs.nil) (Sub.nil _) ?_
  exact ⟨rfl, rfl⟩
theorem stepMakes_R (z : Int) (A0 : Option Addr) (c0 : Nat) (zs : List Go.E.Act) (A : Option Addr) (c : Nat) (xs : List Nat) (hc : xs.length ≤ c) (hlow : ∀ x ∈ xs, x < 18446744073709551616) (w0 : World) (hZ : Ro w0 [] (SlA A0 (zs.flatMap actL))) (hR : Ro w0 [] (SlA A (u64s xs))) (hT : Tabs 2 0 w0 []) (hT2 : Tabs 3 1 w0 []) :
    Calls Tryd.prog 13 #[.int .i64 z, .slice A0 zs.length c0, .slice A xs.length c] w0 (Post w0 [] fun v L => v = .bool true ∧ L = []) := by
  have hEm : ∀ w, Tabs 2 0 w [] → Calls Tryd.prog 88 #[] w (Ret w (.agg (hcs (emptL emptyH)).toArray)) := fun w h => empties_R w h
  by_cases hx : 40 < xs.length
  · exact law13_walkE emptyH hEm emptyH_ne z A0 c0 zs A c xs hx w0 hT
  · by_cases hzs : 25 < zs.length
    · exact law13_walkL emptyH hEm emptyH_ne z A0 c0 zs A c xs (by omega) hzs w0 hT
    · by_cases hz : z < 0 ∨ 32 < z
      · exact law13_walkZ emptyH hEm emptyH_ne z A0 c0 zs A c xs (by omega) (by omega) hz w0 hT
      · obtain ⟨height, rfl⟩ : ∃ n : Nat, z = (n : Int) := ⟨z.toNat, by omega⟩
        rcases Nat.eq_zero_or_pos xs.length with h0 | h0
        · exact law13b_walk emptyH hEm (fun _ => rfl) (fun w h => rempties_walk w h) emptyH_ne height (by omega) A0 c0 zs (by omega) A c xs hc (by omega) h0 w0 hZ hlow hR hT hT2
        · exact law13a_walk emptyH hEm (fun _ => rfl) (fun w h => rempties_walk w h) emptyH_ne height (by omega) A0 c0 zs (by omega) A c xs hc (by omega) h0 w0 hZ hlow hR hT hT2

end Go.Proofs.YtlneklemjfefpaaDoor
