/-
  Walks: roots and checks. Printed by a program of ours.
-/
import Derived.Test.YtlneklemjfefpaaDoorUF
namespace Go.Proofs.YtlneklemjfefpaaDoor
open Go.E
set_option linter.unusedVariables false
set_option maxRecDepth 4000
theorem Tryd.ent56 : Enters Tryd.prog 56 := ⟨_, Tryd.func56, by kernel_rfl, rfl⟩
theorem Tryd.ent57 : Enters Tryd.prog 57 := ⟨_, Tryd.func57, by kernel_rfl, rfl⟩
theorem Tryd.ent60 : Enters Tryd.prog 60 := ⟨_, Tryd.func60, by kernel_rfl, rfl⟩
theorem Tryd.ent65 : Enters Tryd.prog 65 := ⟨_, Tryd.func65, by kernel_rfl, rfl⟩
theorem Tryd.ent108 : Enters Tryd.prog 108 := ⟨_, Tryd.func108, by kernel_rfl, rfl⟩
theorem Tryd.buildClimb (A : Option Addr) (n c : Nat) (B : Option Addr) (m d : Nat) (w : World) : (Instr.build 206 #[(0, .slice A n c), (1, .slice B m d)]).run Tryd.prog w = .ok (.agg #[.slice A n c, .slice B m d, .slice none 0 0]) w := by kernel_rfl
def largeP (n a b : Nat) : Prop := (40 < n ∧ n ≤ 256) ∨ 300 < n ∨ 300 < a ∨ 1500 < b
instance (n a b : Nat) : Decidable (largeP n a b) := inferInstanceAs (Decidable (_ ∨ _))
theorem alive10_eq {E : Nat → H32} (hE : ∀ h, E (h + 1) = joinH (h + 1) (E h) (E h)) : chkR (getT E (setK E [] 1 H3s 1) (1, 0)) ((1 : Nat) : Int) [0, 1] ([0, 1].map fun x => getT E (setK E [] 1 H3s 1) (0, x)) ((spots 1 [0, 1] 0).map fun a => getT E (setK E [] 1 H3s 1) a) = 0 := by
  have ht := (TreeOk.empty hE 1).set (i := 1) (by decide) H3s
  have hi : idxOk 1 [0, 1] := by decide
  have h0 : rootR ((1 : Nat) : Int) [0, 1] ([0, 1].map fun x => getT E (setK E [] 1 H3s 1) (0, x)) ((spots 1 [0, 1] 0).map fun a => getT E (setK E [] 1 H3s 1) a) = (getT E (setK E [] 1 H3s 1) (1, 0), 0) := by
    rw [rootR_nat (by decide), rootN_0 hi (by rw [List.length_map]) (by rw [List.length_map])]
    have e1 := ht.get (1, 0) (by decide)
    have e2 := ht.get (0, 0) (by decide)
    have e3 := ht.get (0, 1) (by decide)
    have e : climbV 1 [0, 1] 0 ([0, 1].map fun x => getT E (setK E [] 1 H3s 1) (0, x)) ((spots 1 [0, 1] 0).map fun a => getT E (setK E [] 1 H3s 1) a) = joinH 1 (getT E (setK E [] 1 H3s 1) (0, 0)) (getT E (setK E [] 1 H3s 1) (0, 1)) := rfl
    rw [e, e1, e2, e3]; rfl
  rw [chkR, h0]; simp
set_option maxHeartbeats 400000 in
theorem come_walk1 (z : Int) (A : Option Addr) (c : Nat) (xs : List Nat) (B : Option Addr) (b : Nat) (ls : List H32) (Z : Option Addr) (e : Nat) (bs : List H32) (hr : ∀ w, Ro w [] (SlA A (u64s xs)) → Calls Tryd.prog 67 #[.int .i64 z, .slice A xs.length c] w (Ret w (.bool false))) (w0 : World) (hR : Ro w0 [] (SlA A (u64s xs))) :
    Calls Tryd.prog 108 #[.int .i64 z, .slice A xs.length c, .slice B ls.length b, .slice Z bs.length e] w0 (Post w0 [] fun v L => v = .tuple #[hv zeroH, .slice none 0 0, .iface 58 (.int .i64 1)] ∧ L = []) := by
  refine Calls.of (L := []) (n := 61) (rs := [.cell 8 23, .tmp 9, .tmp 10]) Tryd.func108 rfl rfl rfl (Nat.le_of_ble_eq_true rfl) (Sat.nil _) ?_
  refine TC.seq ?_
  refine TC.region ?_
  refine S.opS rfl rfl (OpV.alloc Tryd.zero23 (fun b8 => ?_))
  refine S.q rfl rfl (Qt.assign (by conv => lhs; whnf)) ?_
  refine S.q rfl rfl (Qt.assign (by conv => lhs; whnf)) ?_
  refine S.nil ?_
  refine TC.seq ?_
  refine TC.region ?_
  refine S.q rfl rfl (Qt.move (by conv => lhs; whnf)) ?_
  refine S.q rfl rfl (Qt.move (by conv => lhs; whnf)) ?_
  refine S.opS rfl rfl (OpV.con0 Tryd.ent65 rfl (fun w hw => Calls.ret (count10_walkF2 z A c xs w (fun w1 h => hr w1 h) (Rd.ro hR w hw))) ?_)
  refine S.q rfl rfl (Qt.move (by conv => lhs; whnf)) ?_
  refine S.q rfl rfl (Qt.extract rfl rfl) ?_
  refine S.q rfl rfl (Qt.extract rfl rfl) ?_
  refine S.q rfl rfl (Qt.assign (by conv => lhs; whnf)) ?_
  refine S.q rfl rfl (Qt.assign (by conv => lhs; whnf)) ?_
  refine S.nil ?_
  refine TC.seq ?_
  refine TC.block ?_
  refine TC.seq ?_
  refine TC.region ?_
  refine S.q rfl rfl (Qt.move (by conv => lhs; whnf)) ?_
  refine S.q rfl rfl (Qt.nenil_iface Tryd.underlying27 rfl) ?_
  refine S.q rfl rfl (Qt.assign (by conv => lhs; whnf)) ?_
  refine S.nil ?_
  refine S.if_t rfl ?_
  refine TC.seq ?_
  refine TC.region ?_
  refine S.q rfl rfl (Qt.build (v := hv zeroH) rfl (fun _ => by kernel_rfl)) ?_
  refine S.q rfl rfl (Qt.move (by conv => lhs; whnf)) ?_
  refine S.opN rfl (OpV.storeV0 (v := hv (zeroH)) rfl rfl (hv_size Tryd.cells23) (hv_all _) (hv_len _) ?_)
  refine S.q rfl rfl (Qt.assign (by conv => lhs; whnf)) ?_
  refine S.q rfl rfl (Qt.assign (by conv => lhs; whnf)) ?_
  refine S.nil ?_
  refine TC.ret ?_
  refine finQ.ret (RVs.cell rfl (Ld.all (Has.at 0 rfl) Tryd.row23 (hv_size Tryd.cells23)) (RVs.tmp (by conv => lhs; whnf) (RVs.tmp (by conv => lhs; whnf) RVs.nil))) (Sub.nil _) ?_
  exact ⟨rfl, rfl⟩
set_option maxHeartbeats 400000 in
theorem come_walk2 (height : Nat) (hh : height ≤ 32) (A : Option Addr) (c : Nat) (xs : List Nat) (hc : xs.length ≤ c) (B : Option Addr) (b : Nat) (ls : List H32) (Z : Option Addr) (e : Nat) (bs : List H32) (hi : idxOk height xs) (h2 : ls.length ≠ xs.length) (w0 : World) (hlow : ∀ x ∈ xs, x < 18446744073709551616) (hR : Ro w0 [] (SlA A (u64s xs))) (hB : Ro w0 [] (SlA B (hcs ls))) (hD : Ro w0 [] (SlA Z (hcs bs))) :
    Calls Tryd.prog 108 #[.int .i64 (height : Int), .slice A xs.length c, .slice B ls.length b, .slice Z bs.length e] w0 (Post w0 [] fun v L => v = .tuple #[hv zeroH, .slice none 0 0, .iface 58 (.int .i64 2)] ∧ L = []) := by
  refine Calls.of (L := []) (n := 61) (rs := [.cell 8 23, .tmp 9, .tmp 10]) Tryd.func108 rfl rfl rfl (Nat.le_of_ble_eq_true rfl) (Sat.nil _) ?_
  refine TC.seq ?_
  refine TC.region ?_
  refine S.opS rfl rfl (OpV.alloc Tryd.zero23 (fun b8 => ?_))
  refine S.q rfl rfl (Qt.assign (by conv => lhs; whnf)) ?_
  refine S.q rfl rfl (Qt.assign (by conv => lhs; whnf)) ?_
  refine S.nil ?_
  refine TC.seq ?_
  refine TC.region ?_
  refine S.q rfl rfl (Qt.move (by conv => lhs; whnf)) ?_
  refine S.q rfl rfl (Qt.move (by conv => lhs; whnf)) ?_
  refine S.opS rfl rfl (OpV.con0 Tryd.ent65 rfl (fun w hw => Calls.ret (count10_walk height hh A c xs hc hi w hlow (Rd.ro hR w hw))) ?_)
  refine S.q rfl rfl (Qt.move (by conv => lhs; whnf)) ?_
  refine S.q rfl rfl (Qt.extract rfl rfl) ?_
  refine S.q rfl rfl (Qt.extract rfl rfl) ?_
  refine S.q rfl rfl (Qt.assign (by conv => lhs; whnf)) ?_
  refine S.q rfl rfl (Qt.assign (by conv => lhs; whnf)) ?_
  refine S.nil ?_
  refine TC.seq ?_
  refine TC.block ?_
  refine TC.seq ?_
  refine TC.region ?_
  refine S.q rfl rfl (Qt.move (by conv => lhs; whnf)) ?_
  refine S.q rfl rfl (Qt.nenil_nil Tryd.underlying27 rfl) ?_
  refine S.q rfl rfl (Qt.assign (by conv => lhs; whnf)) ?_
  refine S.nil ?_
  refine S.if_f rfl ?_
  refine TC.seq ?_
  refine TC.region ?_
  refine S.q rfl rfl (Qt.move (by conv => lhs; whnf)) ?_
  refine S.q rfl rfl (Qt.len_slice Tryd.underlying44 rfl) ?_
  refine S.q rfl rfl (Qt.move (by conv => lhs; whnf)) ?_
  refine S.q rfl rfl (Qt.len_slice Tryd.underlying71 rfl) ?_
  refine S.q rfl rfl (Qt.dT (Qt.ne rfl rfl) (h2)) ?_
  refine S.q rfl rfl (Qt.assign (by conv => lhs; whnf)) ?_
  refine S.nil ?_
  refine S.if_t rfl ?_
  refine TC.seq ?_
  refine TC.region ?_
  refine S.q rfl rfl (Qt.build (v := hv zeroH) rfl (fun _ => by kernel_rfl)) ?_
  refine S.q rfl rfl (Qt.makeInterface Tryd.underlying58 (fun _ h => nomatch h) (by conv => lhs; whnf)) ?_
  refine S.opN rfl (OpV.storeV0 (v := hv (zeroH)) rfl rfl (hv_size Tryd.cells23) (hv_all _) (hv_len _) ?_)
  refine S.q rfl rfl (Qt.assign (by conv => lhs; whnf)) ?_
  refine S.q rfl rfl (Qt.assign (by conv => lhs; whnf)) ?_
  refine S.nil ?_
  refine TC.ret ?_
  refine finQ.ret (RVs.cell rfl (Ld.all (Has.at 0 rfl) Tryd.row23 (hv_size Tryd.cells23)) (RVs.tmp (by conv => lhs; whnf) (RVs.tmp (by conv => lhs; whnf) RVs.nil))) (Sub.nil _) ?_
  exact ⟨rfl, rfl⟩
set_option maxHeartbeats 400000 in
theorem come_walk5 (height : Nat) (hh : height ≤ 32) (A : Option Addr) (c : Nat) (xs : List Nat) (hc : xs.length ≤ c) (B : Option Addr) (b : Nat) (ls : List H32) (Z : Option Addr) (e : Nat) (bs : List H32) (hi : idxOk height xs) (h2 : ls.length = xs.length) (h3 : bs.length ≠ (spots height xs 0).length) (w0 : World) (hlow : ∀ x ∈ xs, x < 18446744073709551616) (hR : Ro w0 [] (SlA A (u64s xs))) (hB : Ro w0 [] (SlA B (hcs ls))) (hD : Ro w0 [] (SlA Z (hcs bs))) :
    Calls Tryd.prog 108 #[.int .i64 (height : Int), .slice A xs.length c, .slice B ls.length b, .slice Z bs.length e] w0 (Post w0 [] fun v L => v = .tuple #[hv zeroH, .slice none 0 0, .iface 58 (.int .i64 5)] ∧ L = []) := by
  refine Calls.of (L := []) (n := 61) (rs := [.cell 8 23, .tmp 9, .tmp 10]) Tryd.func108 rfl rfl rfl (Nat.le_of_ble_eq_true rfl) (Sat.nil _) ?_
  refine TC.seq ?_
  refine TC.region ?_
  refine S.opS rfl rfl (OpV.alloc Tryd.zero23 (fun b8 => ?_))
  refine S.q rfl rfl (Qt.assign (by conv => lhs; whnf)) ?_
  refine S.q rfl rfl (Qt.assign (by conv => lhs; whnf)) ?_
  refine S.nil ?_
  refine TC.seq ?_
  refine TC.region ?_
  refine S.q rfl rfl (Qt.move (by conv => lhs; whnf)) ?_
  refine S.q rfl rfl (Qt.move (by conv => lhs; whnf)) ?_
  refine S.opS rfl rfl (OpV.con0 Tryd.ent65 rfl (fun w hw => Calls.ret (count10_walk height hh A c xs hc hi w hlow (Rd.ro hR w hw))) ?_)
  refine S.q rfl rfl (Qt.move (by conv => lhs; whnf)) ?_
  refine S.q rfl rfl (Qt.extract rfl rfl) ?_
  refine S.q rfl rfl (Qt.extract rfl rfl) ?_
  refine S.q rfl rfl (Qt.assign (by conv => lhs; whnf)) ?_
  refine S.q rfl rfl (Qt.assign (by conv => lhs; whnf)) ?_
  refine S.nil ?_
  refine TC.seq ?_
  refine TC.block ?_
  refine TC.seq ?_
  refine TC.region ?_
  refine S.q rfl rfl (Qt.move (by conv => lhs; whnf)) ?_
  refine S.q rfl rfl (Qt.nenil_nil Tryd.underlying27 rfl) ?_
  refine S.q rfl rfl (Qt.assign (by conv => lhs; whnf)) ?_
  refine S.nil ?_
  refine S.if_f rfl ?_
  refine TC.seq ?_
  refine TC.region ?_
  refine S.q rfl rfl (Qt.move (by conv => lhs; whnf)) ?_
  refine S.q rfl rfl (Qt.len_slice Tryd.underlying44 rfl) ?_
  refine S.q rfl rfl (Qt.move (by conv => lhs; whnf)) ?_
  refine S.q rfl rfl (Qt.len_slice Tryd.underlying71 rfl) ?_
  refine S.q rfl rfl (Qt.dF (Qt.ne rfl rfl) (fun k => k h2)) ?_
  refine S.q rfl rfl (Qt.assign (by conv => lhs; whnf)) ?_
  refine S.nil ?_
  refine S.if_f rfl ?_
  refine TC.seq ?_
  refine TC.region ?_
  refine S.q rfl rfl (Qt.move (by conv => lhs; whnf)) ?_
  refine S.q rfl rfl (Qt.len_slice Tryd.underlying44 rfl) ?_
  refine S.q rfl rfl (Qt.move (by conv => lhs; whnf)) ?_
  refine S.q rfl rfl (Qt.dT (Qt.ne rfl rfl) (h3)) ?_
  refine S.q rfl rfl (Qt.assign (by conv => lhs; whnf)) ?_
  refine S.nil ?_
  refine S.if_t rfl ?_
  refine TC.seq ?_
  refine TC.region ?_
  refine S.q rfl rfl (Qt.build (v := hv zeroH) rfl (fun _ => by kernel_rfl)) ?_
  refine S.q rfl rfl (Qt.makeInterface Tryd.underlying58 (fun _ h => nomatch h) (by conv => lhs; whnf)) ?_
  refine S.opN rfl (OpV.storeV0 (v := hv (zeroH)) rfl rfl (hv_size Tryd.cells23) (hv_all _) (hv_len _) ?_)
  refine S.q rfl rfl (Qt.assign (by conv => lhs; whnf)) ?_
  refine S.q rfl rfl (Qt.assign (by conv => lhs; whnf)) ?_
  refine S.nil ?_
  refine TC.ret ?_
  refine finQ.ret (RVs.cell rfl (Ld.all (Has.at 0 rfl) Tryd.row23 (hv_size Tryd.cells23)) (RVs.tmp (by conv => lhs; whnf) (RVs.tmp (by conv => lhs; whnf) RVs.nil))) (Sub.nil _) ?_
  exact ⟨rfl, rfl⟩
set_option maxHeartbeats 1600000 in
theorem come_walk0 (height : Nat) (hh : height ≤ 32) (A : Option Addr) (c : Nat) (xs : List Nat) (hc : xs.length ≤ c) (B : Option Addr) (b : Nat) (ls : List H32) (Z : Option Addr) (e : Nat) (bs : List H32) (hi : idxOk height xs) (h2 : ls.length = xs.length) (h3 : bs.length = (spots height xs 0).length) (hb : ls.length ≤ b) (hbs : bs.length ≤ e) (w0 : World) (hlow : ∀ x ∈ xs, x < 18446744073709551616) (hR : Ro w0 [] (SlA A (u64s xs))) (hB : Ro w0 [] (SlA B (hcs ls))) (hD : Ro w0 [] (SlA Z (hcs bs))) (hT : Tabs 2 0 w0 []) :
    Calls Tryd.prog 108 #[.int .i64 (height : Int), .slice A xs.length c, .slice B ls.length b, .slice Z bs.length e] w0 (Post w0 [] fun v L => ∃ (O : Option Addr) (d : Nat) (tt : List Tx), v = .tuple #[hv (climbV height xs 0 ls bs), .slice O tt.length d, .nilIface] ∧ L = [OwnA 101 1 O (tt).length d ((tt).flatMap txL), Many ((tt).map txOwn)] ∧ tt.map (fun t => t.2.2) = climbT height xs 0 ls bs) := by
  refine Calls.of (L := []) (n := 61) (rs := [.cell 8 23, .tmp 9, .tmp 10]) Tryd.func108 rfl rfl rfl (Nat.le_of_ble_eq_true rfl) (Sat.nil _) ?_
  have hn := hi.2.1
  have hsp : (spots height xs 0).length ≤ 8193 := by have h1 := spots_len height xs 0; have h2 : xs.length * height ≤ 256 * 32 := Nat.mul_le_mul hi.2.1 hh; omega
  have hmu : xs.length * height ≤ 256 * 32 := Nat.mul_le_mul hi.2.1 hh
  refine TC.ownNil 101 1 ?_
  refine TC.manyNil ?_
  refine TC.seq ?_
  refine TC.region ?_
  refine S.opS rfl rfl (OpV.alloc Tryd.zero23 (fun b8 => ?_))
  refine S.q rfl rfl (Qt.assign (by conv => lhs; whnf)) ?_
  refine S.q rfl rfl (Qt.assign (by conv => lhs; whnf)) ?_
  refine S.nil ?_
  refine TC.seq ?_
  refine TC.region ?_
  refine S.q rfl rfl (Qt.move (by conv => lhs; whnf)) ?_
  refine S.q rfl rfl (Qt.move (by conv => lhs; whnf)) ?_
  refine S.opS rfl rfl (OpV.con0 Tryd.ent65 rfl (fun w hw => Calls.ret (count10_walk height hh A c xs hc hi w hlow (Rd.ro hR w hw))) ?_)
  refine S.q rfl rfl (Qt.move (by conv => lhs; whnf)) ?_
  refine S.q rfl rfl (Qt.extract rfl rfl) ?_
  refine S.q rfl rfl (Qt.extract rfl rfl) ?_
  refine S.q rfl rfl (Qt.assign (by conv => lhs; whnf)) ?_
  refine S.q rfl rfl (Qt.assign (by conv => lhs; whnf)) ?_
  refine S.nil ?_
  refine TC.seq ?_
  refine TC.block ?_
  refine TC.seq ?_
  refine TC.region ?_
  refine S.q rfl rfl (Qt.move (by conv => lhs; whnf)) ?_
  refine S.q rfl rfl (Qt.nenil_nil Tryd.underlying27 rfl) ?_
  refine S.q rfl rfl (Qt.assign (by conv => lhs; whnf)) ?_
  refine S.nil ?_
  refine S.if_f rfl ?_
  refine TC.seq ?_
  refine TC.region ?_
  refine S.q rfl rfl (Qt.move (by conv => lhs; whnf)) ?_
  refine S.q rfl rfl (Qt.len_slice Tryd.underlying44 rfl) ?_
  refine S.q rfl rfl (Qt.move (by conv => lhs; whnf)) ?_
  refine S.q rfl rfl (Qt.len_slice Tryd.underlying71 rfl) ?_
  refine S.q rfl rfl (Qt.dF (Qt.ne rfl rfl) (fun k => k h2)) ?_
  refine S.q rfl rfl (Qt.assign (by conv => lhs; whnf)) ?_
  refine S.nil ?_
  refine S.if_f rfl ?_
  refine TC.seq ?_
  refine TC.region ?_
  refine S.q rfl rfl (Qt.move (by conv => lhs; whnf)) ?_
  refine S.q rfl rfl (Qt.len_slice Tryd.underlying44 rfl) ?_
  refine S.q rfl rfl (Qt.move (by conv => lhs; whnf)) ?_
  refine S.q rfl rfl (Qt.dF (Qt.ne rfl rfl) (fun k => k h3)) ?_
  refine S.q rfl rfl (Qt.assign (by conv => lhs; whnf)) ?_
  refine S.nil ?_
  refine S.if_f rfl ?_
  refine TC.skip ?_
  refine TC.seq ?_
  refine TC.region ?_
  refine S.q rfl rfl (Qt.move (by conv => lhs; whnf)) ?_
  refine S.q rfl rfl (Qt.move (by conv => lhs; whnf)) ?_
  refine S.q rfl rfl (Qt.build2 (a := .slice B ls.length b) (b := .slice Z bs.length e) rfl rfl (Tryd.buildClimb B ls.length b Z bs.length e)) ?_
  refine S.opS rfl rfl (OpV.box (v := .agg #[.slice B ls.length b, .slice Z bs.length e, .slice none 0 0]) rfl (fun b44 => ?_))
  refine S.q rfl rfl (Qt.assign (by conv => lhs; whnf)) ?_
  refine S.nil ?_
  refine TC.seq ?_
  refine TC.region ?_
  refine S.q rfl rfl (Qt.move (by conv => lhs; whnf)) ?_
  refine S.q rfl rfl (Qt.move (by conv => lhs; whnf)) ?_
  refine S.q rfl rfl (Qt.move (by conv => lhs; whnf)) ?_
  refine S.opS rfl rfl (OpV.con (Pre := climbL 206 101 b44 B ls b Z bs e none [] 0) (R := _) Tryd.ent131 rfl (List.Perm.cons _ ((List.perm_middle (l₁ := [_, _])).trans (List.Perm.cons _ (List.perm_middle (l₁ := [_]))))) (fun w hw => climb_C height hh height (Nat.le_refl _) 0 xs A c b44 B ls b Z bs e none [] 0 w (okRoot height) hi.rise hi.root hc hn (by omega) (by omega) hb hbs (by rw [List.length_nil]; omega) (by omega) (by omega) hw.sat.left (Ro.of_pre hw hR) (Ro.of_pre hw hB) (Ro.of_pre hw hD) (hT.pre hw)) ?_)
  rintro v L' ⟨A1', c1', A2', c2', O, d, tt, rfl, rfl, ett, le1, le2⟩
  refine S.q rfl rfl (Qt.move (by conv => lhs; whnf)) ?_
  refine S.q rfl rfl (Qt.extract rfl rfl) ?_
  refine S.q rfl rfl (Qt.extract rfl rfl) ?_
  refine S.opS rfl rfl (OpV.alloc Tryd.zero23 (fun b14 => ?_))
  refine S.opN rfl (OpV.storeV0 (v := hv (_)) rfl rfl (hv_size Tryd.cells23) (hv_all _) (hv_len _) ?_)
  refine S.q rfl rfl (Qt.assign (by conv => lhs; whnf)) ?_
  refine S.nil ?_
  refine TC.seq ?_
  refine TC.seq ?_
  refine TC.region ?_
  refine S.q rfl rfl (Qt.move (by conv => lhs; whnf)) ?_
  refine S.q rfl rfl (Qt.nenil_nil Tryd.underlying27 rfl) ?_
  refine S.nil ?_
  refine S.if_f rfl ?_
  refine TC.skip ?_
  refine TC.seq ?_
  refine S.draw ([5], []) Tryd.mixed (Sub.keep _ (Sub.keep _ (Sub.keep _ (Sub.keep _ (Sub.drop _ (Sub.nil [])))))) ?_
  refine D.qX (k := 0) rfl (by kernel_rfl) (by kernel_rfl) (by kernel_rfl) rfl rfl (Qt.load rfl (Ld.hash1 (x := climbV height xs 0 (ls.take xs.length) (bs.take (spots height xs 0).length)) (Has.at 0 rfl) Tryd.row23 Tryd.cells23)) ?_
  refine D.q (k := 1) rfl (by kernel_rfl) (by kernel_rfl) rfl rfl (Qt.move (by conv => lhs; whnf)) ?_
  refine D.q (k := 2) rfl (by kernel_rfl) (by kernel_rfl) rfl rfl (Qt.nilCheck rfl) ?_
  refine D.q (k := 3) rfl (by kernel_rfl) (by kernel_rfl) rfl rfl (Qt.field Tryd.underlying206 rfl Tryd.cells91 rfl) ?_
  refine D.q (k := 4) rfl (by kernel_rfl) (by kernel_rfl) rfl rfl (Qt.load rfl (Ld.one (v := .slice O ([] ++ tt).length d) (Has.at 1 rfl) Tryd.one91 rfl)) ?_
  refine D.opN (k := 5) (Sub.keep _ (Sub.keep _ (Sub.keep _ (Sub.keep _ (Sub.drop _ (Sub.nil [])))))) rfl (by kernel_rfl) (by kernel_rfl) rfl (OpV.storeV4 (v := hv (_)) rfl rfl (hv_size Tryd.cells23) (hv_all _) (hv_len _) ⟨Sub.keep _ (Sub.keep _ (Sub.keep _ (Sub.keep _ (Sub.drop _ (Sub.nil []))))), ?_⟩)
  refine D.qX (k := 6) rfl (by kernel_rfl) (by kernel_rfl) (by kernel_rfl) rfl rfl (Qt.assign (by conv => lhs; whnf)) ?_
  refine D.qX (k := 7) rfl (by kernel_rfl) (by kernel_rfl) (by kernel_rfl) rfl rfl (Qt.assign (by conv => lhs; whnf)) ?_
  refine D.done (Sub.keep _ (Sub.keep _ (Sub.keep _ (Sub.keep _ (Sub.drop _ (Sub.nil [])))))) (by kernel_rfl) ?_
  refine TC.ret ?_
  refine finQ.ret (RVs.cell rfl (Ld.all (Has.at 4 rfl) Tryd.row23 (hv_size Tryd.cells23)) (RVs.tmp (by conv => lhs; whnf) (RVs.tmp (by conv => lhs; whnf) RVs.nil))) (Sub.trans (Sub.keep _ (Sub.keep _ (Sub.drop _ (Sub.drop _ (Sub.drop _ (Sub.nil [])))))) (Sub.trans (Sub.keep _ (Sub.trans (Sub.keep _ (Sub.refl _)) (Sub.of_perm (List.perm_middle (l₁ := [_, _]))))) (Sub.of_perm (List.perm_middle (l₁ := [_, _]))))) ?_
  rw [← h2, List.take_length, ← h3, List.take_length] at *
  exact ⟨O, d, tt, rfl, rfl, ett⟩
set_option maxHeartbeats 400000 in
theorem root10_walkE (z : Int) (k : Nat) (A : Option Addr) (c : Nat) (xs : List Nat) (B : Option Addr) (b : Nat) (ls : List H32) (Z : Option Addr) (e : Nat) (bs : List H32) (hce : ∀ w, Ro w [] (SlA A (u64s xs)) → Ro w [] (SlA B (hcs ls)) → Ro w [] (SlA Z (hcs bs)) → Calls Tryd.prog 108 #[.int .i64 z, .slice A xs.length c, .slice B ls.length b, .slice Z bs.length e] w (Ret w (.tuple #[hv zeroH, .slice none 0 0, .iface 58 (.int .i64 (k : Int))]))) (w0 : World) (hR : Ro w0 [] (SlA A (u64s xs))) (hB : Ro w0 [] (SlA B (hcs ls))) (hD : Ro w0 [] (SlA Z (hcs bs))) :
    Calls Tryd.prog 57 #[.int .i64 z, .slice A xs.length c, .slice B ls.length b, .slice Z bs.length e] w0 (Post w0 [] fun v L => v = .tuple #[hv zeroH, .iface 58 (.int .i64 (k : Int))] ∧ L = []) := by
  refine Calls.of (L := []) (n := 24) (rs := [.cell 8 23, .tmp 9]) Tryd.func57 rfl rfl rfl (Nat.le_of_ble_eq_true rfl) (Sat.nil _) ?_
  refine TC.seq ?_
  refine TC.region ?_
  refine S.opS rfl rfl (OpV.alloc Tryd.zero23 (fun b8 => ?_))
  refine S.q rfl rfl (Qt.assign (by conv => lhs; whnf)) ?_
  refine S.nil ?_
  refine TC.seq ?_
  refine TC.region ?_
  refine S.q rfl rfl (Qt.move (by conv => lhs; whnf)) ?_
  refine S.q rfl rfl (Qt.move (by conv => lhs; whnf)) ?_
  refine S.q rfl rfl (Qt.move (by conv => lhs; whnf)) ?_
  refine S.q rfl rfl (Qt.move (by conv => lhs; whnf)) ?_
  refine S.opS rfl rfl (OpV.con0 Tryd.ent108 rfl (fun w hw => hce w (Rd.ro hR w hw) (Rd.ro hB w hw) (Rd.ro hD w hw)) ?_)
  refine S.q rfl rfl (Qt.move (by conv => lhs; whnf)) ?_
  refine S.q rfl rfl (Qt.extract rfl rfl) ?_
  refine S.q rfl rfl (Qt.extract rfl rfl) ?_
  refine S.q rfl rfl (Qt.extract rfl rfl) ?_
  refine S.opS rfl rfl (OpV.alloc Tryd.zero23 (fun b10 => ?_))
  refine S.opN rfl (OpV.storeV0 (v := hv (_)) rfl rfl (hv_size Tryd.cells23) (hv_all _) (hv_len _) ?_)
  refine S.q rfl rfl (Qt.assign (by conv => lhs; whnf)) ?_
  refine S.q rfl rfl (Qt.assign (by conv => lhs; whnf)) ?_
  refine S.nil ?_
  refine TC.seq ?_
  refine TC.region ?_
  refine S.q rfl rfl (Qt.load rfl (Ld.hash1 (x := zeroH) (Has.at 0 rfl) Tryd.row23 Tryd.cells23)) ?_
  refine S.q rfl rfl (Qt.move (by conv => lhs; whnf)) ?_
  refine S.opN rfl (OpV.storeV1 (v := hv (_)) rfl rfl (hv_size Tryd.cells23) (hv_all _) (hv_len _) ?_)
  refine S.q rfl rfl (Qt.assign (by conv => lhs; whnf)) ?_
  refine S.nil ?_
  refine TC.ret ?_
  refine finQ.ret (RVs.cell rfl (Ld.all (Has.at 1 rfl) Tryd.row23 (hv_size Tryd.cells23)) (RVs.tmp (by conv => lhs; whnf) RVs.nil)) (Sub.nil _) ?_
  exact ⟨rfl, rfl⟩
set_option maxHeartbeats 400000 in
theorem root10_walk0 (height : Nat) (hh : height ≤ 32) (A : Option Addr) (c : Nat) (xs : List Nat) (hc : xs.length ≤ c) (B : Option Addr) (b : Nat) (ls : List H32) (Z : Option Addr) (e : Nat) (bs : List H32) (hi : idxOk height xs) (h2 : ls.length = xs.length) (h3 : bs.length = (spots height xs 0).length) (hb : ls.length ≤ b) (hbs : bs.length ≤ e) (w0 : World) (hlow : ∀ x ∈ xs, x < 18446744073709551616) (hR : Ro w0 [] (SlA A (u64s xs))) (hB : Ro w0 [] (SlA B (hcs ls))) (hD : Ro w0 [] (SlA Z (hcs bs))) (hT : Tabs 2 0 w0 []) :
    Calls Tryd.prog 57 #[.int .i64 (height : Int), .slice A xs.length c, .slice B ls.length b, .slice Z bs.length e] w0 (Post w0 [] fun v L => v = .tuple #[hv (climbV height xs 0 ls bs), .nilIface] ∧ L = []) := by
  refine Calls.of (L := []) (n := 24) (rs := [.cell 8 23, .tmp 9]) Tryd.func57 rfl rfl rfl (Nat.le_of_ble_eq_true rfl) (Sat.nil _) ?_
  refine TC.seq ?_
  refine TC.region ?_
  refine S.opS rfl rfl (OpV.alloc Tryd.zero23 (fun b8 => ?_))
  refine S.q rfl rfl (Qt.assign (by conv => lhs; whnf)) ?_
  refine S.nil ?_
  refine TC.seq ?_
  refine TC.region ?_
  refine S.q rfl rfl (Qt.move (by conv => lhs; whnf)) ?_
  refine S.q rfl rfl (Qt.move (by conv => lhs; whnf)) ?_
  refine S.q rfl rfl (Qt.move (by conv => lhs; whnf)) ?_
  refine S.q rfl rfl (Qt.move (by conv => lhs; whnf)) ?_
  refine S.opS rfl rfl (OpV.con (Pre := []) (R := _) Tryd.ent108 rfl (List.Perm.refl _) (fun w hw => come_walk0 height hh A c xs hc B b ls Z e bs hi h2 h3 hb hbs w hlow (Rd.ro hR w hw) (Rd.ro hB w hw) (Rd.ro hD w hw) (hT.at hw)) ?_)
  rintro v L' ⟨O, d, tt, rfl, rfl, ett⟩
  refine S.q rfl rfl (Qt.move (by conv => lhs; whnf)) ?_
  refine S.q rfl rfl (Qt.extract rfl rfl) ?_
  refine S.q rfl rfl (Qt.extract rfl rfl) ?_
  refine S.q rfl rfl (Qt.extract rfl rfl) ?_
  refine S.opS rfl rfl (OpV.alloc Tryd.zero23 (fun b10 => ?_))
  refine S.opN rfl (OpV.storeV0 (v := hv (_)) rfl rfl (hv_size Tryd.cells23) (hv_all _) (hv_len _) ?_)
  refine S.q rfl rfl (Qt.assign (by conv => lhs; whnf)) ?_
  refine S.q rfl rfl (Qt.assign (by conv => lhs; whnf)) ?_
  refine S.nil ?_
  refine TC.seq ?_
  refine TC.region ?_
  refine S.q rfl rfl (Qt.load rfl (Ld.hash1 (x := climbV height xs 0 ls bs) (Has.at 0 rfl) Tryd.row23 Tryd.cells23)) ?_
  refine S.q rfl rfl (Qt.move (by conv => lhs; whnf)) ?_
  refine S.opN rfl (OpV.storeV3 (v := hv (_)) rfl rfl (hv_size Tryd.cells23) (hv_all _) (hv_len _) ?_)
  refine S.q rfl rfl (Qt.assign (by conv => lhs; whnf)) ?_
  refine S.nil ?_
  refine TC.ret ?_
  refine finQ.ret (RVs.cell rfl (Ld.all (Has.at 3 rfl) Tryd.row23 (hv_size Tryd.cells23)) (RVs.tmp (by conv => lhs; whnf) RVs.nil)) (Sub.nil _) ?_
  exact ⟨rfl, rfl⟩
theorem come_F1 (z : Int) (A : Option Addr) (c : Nat) (xs : List Nat) (hc : xs.length ≤ c) (B : Option Addr) (b : Nat) (ls : List H32) (Z : Option Addr) (e : Nat) (bs : List H32) (h : z < 0 ∨ 32 < z ∨ ∃ height : Nat, z = (height : Int) ∧ height ≤ 32 ∧ ¬ idxOk height xs) (hlow : ∀ x ∈ xs, x < 18446744073709551616) (w : World) (hR : Ro w [] (SlA A (u64s xs))) : Calls Tryd.prog 108 #[.int .i64 z, .slice A xs.length c, .slice B ls.length b, .slice Z bs.length e] w (Ret w (.tuple #[hv zeroH, .slice none 0 0, .iface 58 (.int .i64 1)])) := by
  refine Calls.ret (come_walk1 z A c xs B b ls Z e bs (fun w1 h1 => ?_) w hR)
  rcases h with h | h | ⟨height, rfl, hh, hi⟩
  · exact right10Z_R z (.inl h) A c xs w1
  · exact right10Z_R z (.inr h) A c xs w1
  · exact right10_F height hh A c xs hi w1 hlow h1
theorem root10_R (z : Int) (A : Option Addr) (c : Nat) (xs : List Nat) (hc : xs.length ≤ c) (B : Option Addr) (b : Nat) (ls : List H32) (Z : Option Addr) (e : Nat) (bs : List H32) (hb : ls.length ≤ b) (hbs : bs.length ≤ e) (w0 : World) (hlow : ∀ x ∈ xs, x < 18446744073709551616) (hR : Ro w0 [] (SlA A (u64s xs))) (hB : Ro w0 [] (SlA B (hcs ls))) (hD : Ro w0 [] (SlA Z (hcs bs))) (hT : Tabs 2 0 w0 []) : Calls Tryd.prog 57 #[.int .i64 z, .slice A xs.length c, .slice B ls.length b, .slice Z bs.length e] w0 (Ret w0 (.tuple #[hv (rootR z xs ls bs).1, errv 58 (rootR z xs ls bs).2])) := by
  by_cases hz : z < 0 ∨ 32 < z
  · rw [rootR, if_pos hz]; exact Calls.ret (root10_walkE z 1 A c xs B b ls Z e bs (fun w r1 r2 r3 => come_F1 z A c xs hc B b ls Z e bs (by omega) hlow w r1) w0 hR hB hD)
  · obtain ⟨height, rfl⟩ : ∃ n : Nat, z = (n : Int) := ⟨z.toNat, by omega⟩
    have hh : height ≤ 32 := by omega
    rw [rootR_nat hh]
    by_cases hi : idxOk height xs
    · by_cases h2 : ls.length = xs.length
      · by_cases h3 : bs.length = (spots height xs 0).length
        · rw [rootN_0 hi h2 h3]; exact Calls.ret (root10_walk0 height hh A c xs hc B b ls Z e bs hi h2 h3 hb hbs w0 hlow hR hB hD hT)
        · rw [rootN_5 hi h2 h3]; exact Calls.ret (root10_walkE _ 5 A c xs B b ls Z e bs (fun w r1 r2 r3 => Calls.ret (come_walk5 height hh A c xs hc B b ls Z e bs hi h2 h3 w hlow r1 r2 r3)) w0 hR hB hD)
      · rw [rootN_2 hi h2]; exact Calls.ret (root10_walkE _ 2 A c xs B b ls Z e bs (fun w r1 r2 r3 => Calls.ret (come_walk2 height hh A c xs hc B b ls Z e bs hi h2 w hlow r1 r2 r3)) w0 hR hB hD)
    · rw [rootN_1 hi]; exact Calls.ret (root10_walkE _ 1 A c xs B b ls Z e bs (fun w r1 r2 r3 => come_F1 _ A c xs hc B b ls Z e bs (.inr (.inr ⟨height, rfl, hh, hi⟩)) hlow w r1) w0 hR hB hD)

set_option maxHeartbeats 400000 in
theorem chk_walk0 (root : H32) (z : Int) (A : Option Addr) (c : Nat) (xs : List Nat) (hc : xs.length ≤ c) (B : Option Addr) (b : Nat) (ls : List H32) (Z : Option Addr) (e : Nat) (bs : List H32) (hb : ls.length ≤ b) (hbs : bs.length ≤ e) (h0 : (rootR z xs ls bs).2 = 0) (w0 : World) (hlow : ∀ x ∈ xs, x < 18446744073709551616) (hR : Ro w0 [] (SlA A (u64s xs))) (hB : Ro w0 [] (SlA B (hcs ls))) (hD : Ro w0 [] (SlA Z (hcs bs))) (hT : Tabs 2 0 w0 []) :
    Calls Tryd.prog 60 #[hv root, .int .i64 z, .slice A xs.length c, .slice B ls.length b, .slice Z bs.length e] w0 (Post w0 [] fun v L => v = errv 58 (if (rootR z xs ls bs).1 ≠ root then 5 else 0) ∧ L = []) := by
  refine Calls.of (L := []) (n := 30) (rs := [.tmp 10]) Tryd.func60 rfl rfl rfl (Nat.le_of_ble_eq_true rfl) (Sat.nil _) ?_
  refine TC.seq ?_
  refine TC.region ?_
  refine S.opS rfl rfl (OpV.box (v := hv root) rfl (fun b5 => ?_))
  refine S.q rfl rfl (Qt.assign (by conv => lhs; whnf)) ?_
  refine S.nil ?_
  refine TC.seq ?_
  refine TC.region ?_
  refine S.q rfl rfl (Qt.move (by conv => lhs; whnf)) ?_
  refine S.q rfl rfl (Qt.move (by conv => lhs; whnf)) ?_
  refine S.q rfl rfl (Qt.move (by conv => lhs; whnf)) ?_
  refine S.q rfl rfl (Qt.move (by conv => lhs; whnf)) ?_
  refine S.opS rfl rfl (OpV.con0 Tryd.ent57 rfl (fun w hw => (by have h := root10_R z A c xs hc B b ls Z e bs hb hbs w hlow (Rd.ro hR w hw) (Rd.ro hB w hw) (Rd.ro hD w hw) (hT.at hw); rw [h0] at h; exact h : Calls Tryd.prog 57 #[.int .i64 z, .slice A xs.length c, .slice B ls.length b, .slice Z bs.length e] w (Ret w (.tuple #[hv (rootR z xs ls bs).1, .nilIface])))) ?_)
  refine S.q rfl rfl (Qt.move (by conv => lhs; whnf)) ?_
  refine S.q rfl rfl (Qt.extract rfl rfl) ?_
  refine S.q rfl rfl (Qt.extract rfl rfl) ?_
  refine S.opS rfl rfl (OpV.alloc Tryd.zero23 (fun b11 => ?_))
  refine S.opN rfl (OpV.storeV0 (v := hv (_)) rfl rfl (hv_size Tryd.cells23) (hv_all _) (hv_len _) ?_)
  refine S.q rfl rfl (Qt.assign (by conv => lhs; whnf)) ?_
  refine S.nil ?_
  refine TC.seq ?_
  refine TC.block ?_
  refine TC.seq ?_
  refine TC.region ?_
  refine S.q rfl rfl (Qt.move (by conv => lhs; whnf)) ?_
  refine S.q rfl rfl (Qt.nenil_nil Tryd.underlying27 rfl) ?_
  refine S.q rfl rfl (Qt.assign (by conv => lhs; whnf)) ?_
  refine S.nil ?_
  refine S.if_f rfl ?_
  refine TC.seq ?_
  refine TC.region ?_
  refine S.q rfl rfl (Qt.load rfl (Ld.hash1 (x := (rootR z xs ls bs).1) (Has.at 0 rfl) Tryd.row23 Tryd.cells23)) ?_
  refine S.q rfl rfl (Qt.load rfl (Ld.hash1 (x := root) (Has.at 1 rfl) Tryd.row23 Tryd.cells23)) ?_
  refine S.dec rfl rfl (Qt.neH (a := (rootR z xs ls bs).1) (b := root) Tryd.guard23 Tryd.underlying23 Tryd.underlying5 Tryd.cells5 rfl rfl) (fun h28 => ?_) (fun h28 => ?_)
  · refine S.q rfl rfl (Qt.assign (by conv => lhs; whnf)) ?_
    refine S.nil ?_
    refine S.if_t rfl ?_
    refine TC.seq ?_
    refine TC.region ?_
    refine S.q rfl rfl (Qt.makeInterface Tryd.underlying58 (fun _ h => nomatch h) (by conv => lhs; whnf)) ?_
    refine S.q rfl rfl (Qt.assign (by conv => lhs; whnf)) ?_
    refine S.nil ?_
    refine TC.ret ?_
    refine finQ.ret (RVs.tmp (by conv => lhs; whnf) RVs.nil) (Sub.nil _) ?_
    exact ⟨by rw [if_pos h28]; rfl, rfl⟩
  · refine S.q rfl rfl (Qt.assign (by conv => lhs; whnf)) ?_
    refine S.nil ?_
    refine S.if_f rfl ?_
    refine TC.skip ?_
    refine TC.seq ?_
    refine TC.region ?_
    refine S.q rfl rfl (Qt.assign (by conv => lhs; whnf)) ?_
    refine S.nil ?_
    refine TC.ret ?_
    refine finQ.ret (RVs.tmp (by conv => lhs; whnf) RVs.nil) (Sub.nil _) ?_
    exact ⟨by rw [if_neg h28]; rfl, rfl⟩
set_option maxHeartbeats 400000 in
theorem chk_walkE (root : H32) (z : Int) (A : Option Addr) (c : Nat) (xs : List Nat) (hc : xs.length ≤ c) (B : Option Addr) (b : Nat) (ls : List H32) (Z : Option Addr) (e : Nat) (bs : List H32) (hb : ls.length ≤ b) (hbs : bs.length ≤ e) (k : Nat) (h0 : (rootR z xs ls bs).2 = k) (hk : k ≠ 0) (w0 : World) (hlow : ∀ x ∈ xs, x < 18446744073709551616) (hR : Ro w0 [] (SlA A (u64s xs))) (hB : Ro w0 [] (SlA B (hcs ls))) (hD : Ro w0 [] (SlA Z (hcs bs))) (hT : Tabs 2 0 w0 []) :
    Calls Tryd.prog 60 #[hv root, .int .i64 z, .slice A xs.length c, .slice B ls.length b, .slice Z bs.length e] w0 (Post w0 [] fun v L => v = .iface 58 (.int .i64 (k : Int)) ∧ L = []) := by
  refine Calls.of (L := []) (n := 30) (rs := [.tmp 10]) Tryd.func60 rfl rfl rfl (Nat.le_of_ble_eq_true rfl) (Sat.nil _) ?_
  refine TC.seq ?_
  refine TC.region ?_
  refine S.opS rfl rfl (OpV.box (v := hv root) rfl (fun b5 => ?_))
  refine S.q rfl rfl (Qt.assign (by conv => lhs; whnf)) ?_
  refine S.nil ?_
  refine TC.seq ?_
  refine TC.region ?_
  refine S.q rfl rfl (Qt.move (by conv => lhs; whnf)) ?_
  refine S.q rfl rfl (Qt.move (by conv => lhs; whnf)) ?_
  refine S.q rfl rfl (Qt.move (by conv => lhs; whnf)) ?_
  refine S.q rfl rfl (Qt.move (by conv => lhs; whnf)) ?_
  refine S.opS rfl rfl (OpV.con0 Tryd.ent57 rfl (fun w hw => (by have h := root10_R z A c xs hc B b ls Z e bs hb hbs w hlow (Rd.ro hR w hw) (Rd.ro hB w hw) (Rd.ro hD w hw) (hT.at hw); rw [h0, errv_pos hk] at h; exact h : Calls Tryd.prog 57 #[.int .i64 z, .slice A xs.length c, .slice B ls.length b, .slice Z bs.length e] w (Ret w (.tuple #[hv (rootR z xs ls bs).1, .iface 58 (.int .i64 (k : Int))])))) ?_)
  refine S.q rfl rfl (Qt.move (by conv => lhs; whnf)) ?_
  refine S.q rfl rfl (Qt.extract rfl rfl) ?_
  refine S.q rfl rfl (Qt.extract rfl rfl) ?_
  refine S.opS rfl rfl (OpV.alloc Tryd.zero23 (fun b11 => ?_))
  refine S.opN rfl (OpV.storeV0 (v := hv (_)) rfl rfl (hv_size Tryd.cells23) (hv_all _) (hv_len _) ?_)
  refine S.q rfl rfl (Qt.assign (by conv => lhs; whnf)) ?_
  refine S.nil ?_
  refine TC.seq ?_
  refine TC.block ?_
  refine TC.seq ?_
  refine TC.region ?_
  refine S.q rfl rfl (Qt.move (by conv => lhs; whnf)) ?_
  refine S.q rfl rfl (Qt.nenil_iface Tryd.underlying27 rfl) ?_
  refine S.q rfl rfl (Qt.assign (by conv => lhs; whnf)) ?_
  refine S.nil ?_
  refine S.if_t rfl ?_
  refine TC.seq ?_
  refine TC.region ?_
  refine S.q rfl rfl (Qt.move (by conv => lhs; whnf)) ?_
  refine S.q rfl rfl (Qt.assign (by conv => lhs; whnf)) ?_
  refine S.nil ?_
  refine TC.ret ?_
  refine finQ.ret (RVs.tmp (by conv => lhs; whnf) RVs.nil) (Sub.nil _) ?_
  exact ⟨rfl, rfl⟩
theorem check10_R (root : H32) (z : Int) (A : Option Addr) (c : Nat) (xs : List Nat) (hc : xs.length ≤ c) (B : Option Addr) (b : Nat) (ls : List H32) (Z : Option Addr) (e : Nat) (bs : List H32) (hb : ls.length ≤ b) (hbs : bs.length ≤ e) (w0 : World) (hlow : ∀ x ∈ xs, x < 18446744073709551616) (hR : Ro w0 [] (SlA A (u64s xs))) (hB : Ro w0 [] (SlA B (hcs ls))) (hD : Ro w0 [] (SlA Z (hcs bs))) (hT : Tabs 2 0 w0 []) : Calls Tryd.prog 60 #[hv root, .int .i64 z, .slice A xs.length c, .slice B ls.length b, .slice Z bs.length e] w0 (Ret w0 (errv 58 (chkR root z xs ls bs))) := by
  by_cases h : (rootR z xs ls bs).2 = 0
  · rw [chkR, if_neg (fun k => k h)]
    exact Calls.ret (chk_walk0 root z A c xs hc B b ls Z e bs hb hbs h w0 hlow hR hB hD hT)
  · rw [chkR, if_pos h, errv_pos h]
    exact Calls.ret (chk_walkE root z A c xs hc B b ls Z e bs hb hbs _ rfl h w0 hlow hR hB hD hT)

set_option maxHeartbeats 800000 in
theorem alive10_walk (E : Nat → H32) (hEm : ∀ w, Tabs 2 0 w [] → Calls Tryd.prog 88 #[] w (Ret w (.agg (hcs (emptL E)).toArray))) (hE : ∀ h, E (h + 1) = joinH (h + 1) (E h) (E h)) (w0 : World) (hT : Tabs 2 0 w0 []) :
    Calls Tryd.prog 56 #[] w0 (Post w0 [] fun v L => v = .bool true ∧ L = []) := by
  refine Calls.of (L := []) (n := 55) (rs := [.tmp 0]) Tryd.func56 rfl rfl rfl (Nat.le_of_ble_eq_true rfl) (Sat.nil _) ?_
  have hi : idxOk 1 [0, 1] := by decide
  refine TC.seq ?_
  refine TC.region ?_
  refine S.q rfl rfl (Qt.assign (by conv => lhs; whnf)) ?_
  refine S.nil ?_
  refine TC.seq ?_
  refine TC.region ?_
  refine S.opS rfl rfl (OpV.con (Pre := []) (R := _) Tryd.ent26 rfl (List.Perm.refl _) (fun w hw => new_walk E hEm 1 (by decide) w (hT.at hw)) ?_)
  rintro v L' ⟨tb, mb, rfl, rfl⟩
  refine S.q rfl rfl (Qt.move (by conv => lhs; whnf)) ?_
  refine S.q rfl rfl (Qt.extract rfl rfl) ?_
  refine S.q rfl rfl (Qt.extract rfl rfl) ?_
  refine S.q rfl rfl (Qt.assign (by conv => lhs; whnf)) ?_
  refine S.q rfl rfl (Qt.assign (by conv => lhs; whnf)) ?_
  refine S.nil ?_
  refine TC.seq ?_
  refine TC.seq ?_
  refine TC.region ?_
  refine S.q rfl rfl (Qt.move (by conv => lhs; whnf)) ?_
  refine S.q rfl rfl (Qt.nenil_nil Tryd.underlying27 rfl) ?_
  refine S.q rfl rfl (Qt.move (by conv => lhs; whnf)) ?_
  refine S.qg rfl rfl rfl (Qt.move (by conv => lhs; whnf)) ?_
  refine S.qg rfl rfl rfl (Qt.build (v := hv H3s) rfl (fun _ => by kernel_rfl)) ?_
  refine S.opg rfl rfl rfl (OpV.con (Pre := [Blk tb 150 (treeCs E 1 mb), MapA mb encAt hv ([])]) (R := _) Tryd.ent27 rfl (List.Perm.refl _) (fun w hw => set_walk E tb mb 1 [] 1 H3s (by decide) (by decide) w hw.sat.left (hT.pre hw)) ?_)
  rintro v L' ⟨rfl, rfl⟩
  refine S.qg rfl rfl rfl (Qt.nenil_nil Tryd.underlying27 rfl) ?_
  refine S.q rfl rfl (Qt.pick_f rfl (by conv => lhs; whnf)) ?_
  refine S.nil ?_
  refine S.if_f rfl ?_
  refine TC.skip ?_
  refine TC.seq ?_
  refine TC.region ?_
  refine S.q rfl rfl (Qt.move (by conv => lhs; whnf)) ?_
  refine S.opS rfl rfl (OpV.sliceLO (vs := u64s [0, 1]) Tryd.underlying71 Tryd.elem24 rfl (by decide) rfl (by intro v hv; obtain ⟨x, _, rfl⟩ := List.mem_map.1 hv; rfl) (fun g20 => ?_))
  refine S.opS rfl rfl (OpV.con (Pre := []) (R := _) Tryd.ent63 rfl (List.Perm.refl _) (fun w hw => make10_walk E tb mb 1 (setK E [] 1 H3s 1) (by decide) (some ⟨g20, 0, none⟩) 2 [0, 1] (by decide) hi w (Rd.at 1 rfl w hw) (Rd.at 2 rfl w hw) (by decide : ∀ x ∈ ([0, 1] : List Nat), x < 18446744073709551616) (Rd.own (Rd.at 0 rfl) w hw)) ?_)
  rintro v L' ⟨O1, d1, rfl, rfl⟩
  refine S.q rfl rfl (Qt.move (by conv => lhs; whnf)) ?_
  refine S.q rfl rfl (Qt.extract rfl rfl) ?_
  refine S.q rfl rfl (Qt.extract rfl rfl) ?_
  refine S.q rfl rfl (Qt.assign (by conv => lhs; whnf)) ?_
  refine S.q rfl rfl (Qt.assign (by conv => lhs; whnf)) ?_
  refine S.nil ?_
  refine TC.seq ?_
  refine TC.region ?_
  refine S.q rfl rfl (Qt.move (by conv => lhs; whnf)) ?_
  refine S.opS rfl rfl (OpV.sliceLO (vs := u64s [0, 1]) Tryd.underlying71 Tryd.elem24 rfl (by decide) rfl (by intro v hv; obtain ⟨x, _, rfl⟩ := List.mem_map.1 hv; rfl) (fun g26 => ?_))
  refine S.opS rfl rfl (OpV.con (Pre := []) (R := _) Tryd.ent64 rfl (List.Perm.refl _) (fun w hw => leaves10_walk E tb mb 1 (setK E [] 1 H3s 1) (by decide) (some ⟨g26, 0, none⟩) 2 [0, 1] hi w (Rd.at 3 rfl w hw) (Rd.at 4 rfl w hw) (by decide : ∀ x ∈ ([0, 1] : List Nat), x < 18446744073709551616) (Rd.own (Rd.at 0 rfl) w hw)) ?_)
  rintro v L' ⟨O2, d2, rfl, rfl⟩
  refine S.q rfl rfl (Qt.move (by conv => lhs; whnf)) ?_
  refine S.q rfl rfl (Qt.extract rfl rfl) ?_
  refine S.q rfl rfl (Qt.extract rfl rfl) ?_
  refine S.q rfl rfl (Qt.assign (by conv => lhs; whnf)) ?_
  refine S.q rfl rfl (Qt.assign (by conv => lhs; whnf)) ?_
  refine S.nil ?_
  refine TC.seq ?_
  refine TC.region ?_
  refine S.q rfl rfl (Qt.move (by conv => lhs; whnf)) ?_
  refine S.q rfl rfl (Qt.eqnil_nil Tryd.underlying27 rfl) ?_
  refine S.q rfl rfl (Qt.move (by conv => lhs; whnf)) ?_
  refine S.qg rfl rfl rfl (Qt.move (by conv => lhs; whnf)) ?_
  refine S.qg rfl rfl rfl (Qt.eqnil_nil Tryd.underlying27 rfl) ?_
  refine S.q rfl rfl (Qt.pick_t rfl (by conv => lhs; whnf)) ?_
  refine S.q rfl rfl (Qt.move (by conv => lhs; whnf)) ?_
  refine S.qg rfl rfl rfl (Qt.move (by conv => lhs; whnf)) ?_
  refine S.qg rfl rfl rfl (Qt.len_slice Tryd.underlying44 rfl) ?_
  refine S.qg rfl rfl rfl (Qt.dT (Qt.eq (b := 0) rfl rfl) (by decide)) ?_
  refine S.q rfl rfl (Qt.pick_t rfl (by conv => lhs; whnf)) ?_
  refine S.q rfl rfl (Qt.move (by conv => lhs; whnf)) ?_
  refine S.qg rfl rfl rfl (Qt.move (by conv => lhs; whnf)) ?_
  refine S.qg rfl rfl rfl (Qt.len_slice Tryd.underlying44 rfl) ?_
  refine S.qg rfl rfl rfl (Qt.dT (Qt.eq (b := 2) rfl rfl) (rfl)) ?_
  refine S.q rfl rfl (Qt.pick_t rfl (by conv => lhs; whnf)) ?_
  refine S.q rfl rfl (Qt.move (by conv => lhs; whnf)) ?_
  refine S.qg rfl rfl rfl (Qt.move (by conv => lhs; whnf)) ?_
  refine S.opg rfl rfl rfl (OpV.con0 Tryd.ent28 rfl (fun w hw => root_R E tb mb 1 (setK E [] 1 H3s 1) (by decide) w (Rd.at 4 rfl w hw) (Rd.at 5 rfl w hw)) ?_)
  refine S.opg rfl rfl rfl (OpV.sliceLO (vs := u64s [0, 1]) Tryd.underlying71 Tryd.elem24 rfl (by decide) rfl (by intro v hv; obtain ⟨x, _, rfl⟩ := List.mem_map.1 hv; rfl) (fun g49 => ?_))
  refine S.qg rfl rfl rfl (Qt.move (by conv => lhs; whnf)) ?_
  refine S.qg rfl rfl rfl (Qt.move (by conv => lhs; whnf)) ?_
  refine S.opg rfl rfl rfl (OpV.con0 Tryd.ent60 rfl (fun w hw => (by have k1 := own_cap (hw.ok (List.mem_of_getElem? (i := 3) rfl)); have k2 := own_cap (hw.ok (List.mem_of_getElem? (i := 1) rfl)); have h := check10_R (getT E (setK E [] 1 H3s 1) (1, 0)) ((1 : Nat) : Int) (some ⟨g49, 0, none⟩) 2 [0, 1] (by decide) O2 d2 ([0, 1].map fun x => getT E (setK E [] 1 H3s 1) (0, x)) O1 d1 ((spots 1 [0, 1] 0).map fun a => getT E (setK E [] 1 H3s 1) a) k2.1 (by rw [List.length_map]; exact k1.1) w (by decide : ∀ x ∈ ([0, 1] : List Nat), x < 18446744073709551616) (Rd.own (Rd.at 0 rfl) w hw) (Rd.own (Rd.at 1 rfl) w hw) (Rd.own (Rd.at 3 rfl) w hw) (hT.at hw); rw [alive10_eq hE] at h; exact h : Calls Tryd.prog 60 #[hv (getT E (setK E [] 1 H3s 1) (1, 0)), .int .i64 ((1 : Nat) : Int), .slice (some ⟨g49, 0, none⟩) 2 2, .slice O2 2 d2, .slice O1 (spots 1 [0, 1] 0).length d1] w (Ret w .nilIface))) ?_)
  refine S.qg rfl rfl rfl (Qt.eqnil_nil Tryd.underlying27 rfl) ?_
  refine S.q rfl rfl (Qt.pick_t rfl (by conv => lhs; whnf)) ?_
  refine S.q rfl rfl (Qt.assign (by conv => lhs; whnf)) ?_
  refine S.nil ?_
  refine TC.ret ?_
  refine finQ.ret (RVs.tmp (by conv => lhs; whnf) RVs.nil) (Sub.nil _) ?_
  exact ⟨rfl, rfl⟩
end Go.Proofs.YtlneklemjfefpaaDoor
