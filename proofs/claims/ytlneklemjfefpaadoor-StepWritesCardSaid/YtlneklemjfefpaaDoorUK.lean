/-
  Walks: a writing step, and its law. Printed by a program of ours.
-/
import Derived.Test.YtlneklemjfefpaaDoorUJ
namespace Go.Proofs.YtlneklemjfefpaaDoor
open Go.E
set_option linter.unusedVariables false
set_option maxRecDepth 4000
theorem Tryd.ent54 : Enters Tryd.prog 54 := ⟨_, Tryd.func54, by kernel_rfl, rfl⟩
theorem Tryd.ent55 : Enters Tryd.prog 55 := ⟨_, Tryd.func55, by kernel_rfl, rfl⟩
def writeR (root : H32) (z : Int) (xs : List Nat) (old bs new : List H32) : H32 × Nat := if chkR root z xs old bs ≠ 0 then (zeroH, chkR root z xs old bs) else rootR z xs new bs
theorem rchk10_R (root : H32) (z : Int) (A : Option Addr) (c : Nat) (xs : List Nat) (hc : xs.length ≤ c) (B : Option Addr) (b : Nat) (ls : List H32) (Z : Option Addr) (e : Nat) (bs : List H32) (hb : ls.length ≤ b) (hbs : bs.length ≤ e) (w0 : World) (hlow : ∀ x ∈ xs, x < 18446744073709551616) (hR : Ro w0 [] (SlA A (u64s xs))) (hB : Ro w0 [] (SlA B (hcs ls))) (hD : Ro w0 [] (SlA Z (hcs bs))) (hT : Tabs 3 1 w0 []) : Calls Tryd.prog 61 #[hv root, .int .i64 z, .slice A xs.length c, .slice B ls.length b, .slice Z bs.length e] w0 (Ret w0 (.int .i64 ((chkR root z xs ls bs : Nat) : Int))) := by
  have err : ∀ k : Nat, k ≠ 0 → (rootR z xs ls bs).2 = k → (∀ w, Ro w [] (SlA A (u64s xs)) → Ro w [] (SlA B (hcs ls)) → Ro w [] (SlA Z (hcs bs)) → Calls Tryd.prog 53 #[.int .i64 z, .slice A xs.length c, .slice B ls.length b, .slice Z bs.length e] w (Ret w (.tuple #[.slice none 0 0, hv zeroH, .int .i64 ((k : Nat) : Int)]))) → Calls Tryd.prog 61 #[hv root, .int .i64 z, .slice A xs.length c, .slice B ls.length b, .slice Z bs.length e] w0 (Ret w0 (.int .i64 ((chkR root z xs ls bs : Nat) : Int))) := fun k hk hr hre => by
    rw [chkR, hr, if_pos hk]; exact Calls.ret (rchk_walkE root z k hk A c xs B b ls Z e bs hre w0 hR hB hD)
  by_cases hz : z < 0 ∨ 32 < z
  · exact err 1 (by decide) (by rw [rootR, if_pos hz]) (fun w r1 r2 r3 => rtx_F1 z A c xs hc B b ls Z e bs (by omega) hlow w r1)
  · obtain ⟨height, rfl⟩ : ∃ n : Nat, z = (n : Int) := ⟨z.toNat, by omega⟩
    have hh : height ≤ 32 := by omega
    by_cases hi : idxOk height xs
    · by_cases h2 : ls.length = xs.length
      · by_cases h3 : bs.length = (spots height xs 0).length
        · rw [chkR, rootR_nat hh, rootN_0 hi h2 h3, if_neg (fun h => h rfl)]; exact Calls.ret (rchk_walk0 root height hh A c xs hc B b ls Z e bs hi h2 h3 w0 hlow hR hB hD hT)
        · exact err 5 (by decide) (by rw [rootR_nat hh, rootN_5 hi h2 h3]) (fun w r1 r2 r3 => Calls.ret (rtx_walk5 height hh A c xs hc B b ls Z e bs hi h2 h3 w hlow r1 r2 r3))
      · exact err 2 (by decide) (by rw [rootR_nat hh, rootN_2 hi h2]) (fun w r1 r2 r3 => Calls.ret (rtx_walk2 height hh A c xs hc B b ls Z e bs hi h2 w hlow r1 r2 r3))
    · exact err 1 (by decide) (by rw [rootR_nat hh, rootN_1 hi]) (fun w r1 r2 r3 => rtx_F1 _ A c xs hc B b ls Z e bs (.inr (.inr ⟨height, rfl, hh, hi⟩)) hlow w r1)
theorem rtx_any (z : Int) (A : Option Addr) (c : Nat) (xs : List Nat) (hc : xs.length ≤ c) (B : Option Addr) (b : Nat) (ls : List H32) (Z : Option Addr) (e : Nat) (bs : List H32) (w0 : World) (hlow : ∀ x ∈ xs, x < 18446744073709551616) (hR : Ro w0 [] (SlA A (u64s xs))) (hB : Ro w0 [] (SlA B (hcs ls))) (hD : Ro w0 [] (SlA Z (hcs bs))) (hT : Tabs 3 1 w0 []) : Calls Tryd.prog 53 #[.int .i64 z, .slice A xs.length c, .slice B ls.length b, .slice Z bs.length e] w0 (Post w0 [] fun v L => (∃ O n d, v = .tuple #[.slice O n d, hv (rootR z xs ls bs).1, .int .i64 (((rootR z xs ls bs).2 : Nat) : Int)]) ∧ L = []) := by
  have r1 : ∀ (h : ∀ w, Ro w [] (SlA A (u64s xs)) → Calls Tryd.prog 66 #[.int .i64 z, .slice A xs.length c] w (Ret w (.bool false))), rootR z xs ls bs = (zeroH, 1) → Calls Tryd.prog 53 #[.int .i64 z, .slice A xs.length c, .slice B ls.length b, .slice Z bs.length e] w0 (Post w0 [] fun v L => (∃ O n d, v = .tuple #[.slice O n d, hv (rootR z xs ls bs).1, .int .i64 (((rootR z xs ls bs).2 : Nat) : Int)]) ∧ L = []) := fun h hr => by
    rw [hr]; exact (rtx_walk1 z A c xs B b ls Z e bs h w0 hR).mono fun _ _ ⟨v, L, h1, h2, h3, h4⟩ => ⟨v, L, h1, h2, ⟨none, 0, 0, h3⟩, h4⟩
  by_cases hz : z < 0 ∨ 32 < z
  · exact r1 (fun w _ => rright10Z_R z hz A c xs w) (by rw [rootR, if_pos hz])
  · obtain ⟨height, rfl⟩ : ∃ n : Nat, z = (n : Int) := ⟨z.toNat, by omega⟩
    have hh : height ≤ 32 := by omega
    by_cases hi : idxOk height xs
    · rw [rootR_nat hh]
      by_cases h2 : ls.length = xs.length
      · by_cases h3 : bs.length = (spots height xs 0).length
        · rw [rootN_0 hi h2 h3]
          exact (rtx_walk0 height hh A c xs hc B b ls Z e bs hi h2 h3 w0 hlow hR hB hD hT).mono fun _ _ ⟨v, L, h1, h2, O, d, tt, h3, _, _⟩ => ⟨v, [], h1, h2.sub (Sub.nil _), ⟨O, tt.length, d, h3⟩, rfl⟩
        · rw [rootN_5 hi h2 h3]
          exact (rtx_walk5 height hh A c xs hc B b ls Z e bs hi h2 h3 w0 hlow hR hB hD).mono fun _ _ ⟨v, L, h1, h2, h3, h4⟩ => ⟨v, L, h1, h2, ⟨none, 0, 0, h3⟩, h4⟩
      · rw [rootN_2 hi h2]
        exact (rtx_walk2 height hh A c xs hc B b ls Z e bs hi h2 w0 hlow hR hB hD).mono fun _ _ ⟨v, L, h1, h2, h3, h4⟩ => ⟨v, L, h1, h2, ⟨none, 0, 0, h3⟩, h4⟩
    · exact r1 (fun w h => rright10_F height hh A c xs hi w hlow h) (by rw [rootR_nat hh, rootN_1 hi])
set_option maxHeartbeats 400000 in
theorem aft_walkE (root : H32) (z : Int) (A : Option Addr) (c : Nat) (xs : List Nat) (hc : xs.length ≤ c) (B : Option Addr) (b : Nat) (ls : List H32) (Z : Option Addr) (e : Nat) (bs : List H32) (N : Option Addr) (n : Nat) (ns : List H32) (hb : ls.length ≤ b) (hbs : bs.length ≤ e) (hns : ns.length ≤ n) (k : Nat) (hk : k ≠ 0) (hck : chkR root z xs ls bs = k) (w0 : World) (hlow : ∀ x ∈ xs, x < 18446744073709551616) (hR : Ro w0 [] (SlA A (u64s xs))) (hB : Ro w0 [] (SlA B (hcs ls))) (hD : Ro w0 [] (SlA Z (hcs bs))) (hN : Ro w0 [] (SlA N (hcs ns))) (hT : Tabs 2 0 w0 []) :
    Calls Tryd.prog 54 #[.agg #[.slice A xs.length c, .slice B ls.length b, .slice Z bs.length e], hv root, .int .i64 z, .slice N ns.length n] w0 (Post w0 [] fun v L => v = .tuple #[hv zeroH, .iface 58 (.int .i64 (k : Int))] ∧ L = []) := by
  refine Calls.of (L := []) (n := 33) (rs := [.cell 8 23, .tmp 9]) Tryd.func54 rfl rfl rfl (Nat.le_of_ble_eq_true rfl) (Sat.nil _) ?_
  refine TC.seq ?_
  refine TC.region ?_
  refine S.opS rfl rfl (OpV.box (v := .agg #[.slice A xs.length c, .slice B ls.length b, .slice Z bs.length e]) rfl (fun b4 => ?_))
  refine S.opS rfl rfl (OpV.box (v := hv root) rfl (fun b5 => ?_))
  refine S.opS rfl rfl (OpV.alloc Tryd.zero23 (fun b8 => ?_))
  refine S.q rfl rfl (Qt.assign (by conv => lhs; whnf)) ?_
  refine S.nil ?_
  refine TC.seq ?_
  refine TC.seq ?_
  refine TC.region ?_
  refine S.q rfl rfl (Qt.load rfl (Ld.hash1 (x := root) (Has.at 1 rfl) Tryd.row23 Tryd.cells23)) ?_
  refine S.q rfl rfl (Qt.move (by conv => lhs; whnf)) ?_
  refine S.q rfl rfl (Qt.field Tryd.underlying88 rfl Tryd.cells71 rfl) ?_
  refine S.q rfl rfl (Qt.load rfl (Ld.one (Has.at 2 rfl) Tryd.one71 (rfl))) ?_
  refine S.q rfl rfl (Qt.field Tryd.underlying88 rfl Tryd.cells44 rfl) ?_
  refine S.q rfl rfl (Qt.load rfl (Ld.one (Has.at 2 rfl) Tryd.one44 (rfl))) ?_
  refine S.q rfl rfl (Qt.field Tryd.underlying88 rfl Tryd.cells44 rfl) ?_
  refine S.q rfl rfl (Qt.load rfl (Ld.one (Has.at 2 rfl) Tryd.one44 (rfl))) ?_
  refine S.opS rfl rfl (OpV.con0 Tryd.ent60 rfl (fun w hw => (by have h := check10_R root z A c xs hc B b ls Z e bs hb hbs w hlow (Rd.ro hR w hw) (Rd.ro hB w hw) (Rd.ro hD w hw) (hT.at hw); rw [hck, errv_pos hk] at h; exact h : Calls Tryd.prog 60 #[hv root, .int .i64 z, .slice A xs.length c, .slice B ls.length b, .slice Z bs.length e] w (Ret w (.iface 58 (.int .i64 (k : Int)))))) ?_)
  refine S.q rfl rfl (Qt.assign (by conv => lhs; whnf)) ?_
  refine S.nil ?_
  refine TC.seq ?_
  refine TC.region ?_
  refine S.q rfl rfl (Qt.move (by conv => lhs; whnf)) ?_
  refine S.q rfl rfl (Qt.nenil_iface Tryd.underlying27 rfl) ?_
  refine S.nil ?_
  refine S.if_t rfl ?_
  refine TC.seq ?_
  refine TC.region ?_
  refine S.q rfl rfl (Qt.build (v := hv zeroH) rfl (fun _ => by kernel_rfl)) ?_
  refine S.q rfl rfl (Qt.move (by conv => lhs; whnf)) ?_
  refine S.opN rfl (OpV.storeV0 (v := hv (_)) rfl rfl (hv_size Tryd.cells23) (hv_all _) (hv_len _) ?_)
  refine S.q rfl rfl (Qt.assign (by conv => lhs; whnf)) ?_
  refine S.nil ?_
  refine TC.ret ?_
  refine finQ.ret (RVs.cell rfl (Ld.all (Has.at 0 rfl) Tryd.row23 (hv_size Tryd.cells23)) (RVs.tmp (by conv => lhs; whnf) RVs.nil)) (Sub.nil _) ?_
  exact ⟨rfl, rfl⟩
set_option maxHeartbeats 400000 in
theorem aft_walk0 (root : H32) (z : Int) (A : Option Addr) (c : Nat) (xs : List Nat) (hc : xs.length ≤ c) (B : Option Addr) (b : Nat) (ls : List H32) (Z : Option Addr) (e : Nat) (bs : List H32) (N : Option Addr) (n : Nat) (ns : List H32) (hb : ls.length ≤ b) (hbs : bs.length ≤ e) (hns : ns.length ≤ n) (hck : chkR root z xs ls bs = 0) (w0 : World) (hlow : ∀ x ∈ xs, x < 18446744073709551616) (hR : Ro w0 [] (SlA A (u64s xs))) (hB : Ro w0 [] (SlA B (hcs ls))) (hD : Ro w0 [] (SlA Z (hcs bs))) (hN : Ro w0 [] (SlA N (hcs ns))) (hT : Tabs 2 0 w0 []) :
    Calls Tryd.prog 54 #[.agg #[.slice A xs.length c, .slice B ls.length b, .slice Z bs.length e], hv root, .int .i64 z, .slice N ns.length n] w0 (Post w0 [] fun v L => v = .tuple #[hv (rootR z xs ns bs).1, errv 58 (rootR z xs ns bs).2] ∧ L = []) := by
  refine Calls.of (L := []) (n := 33) (rs := [.cell 8 23, .tmp 9]) Tryd.func54 rfl rfl rfl (Nat.le_of_ble_eq_true rfl) (Sat.nil _) ?_
  refine TC.seq ?_
  refine TC.region ?_
  refine S.opS rfl rfl (OpV.box (v := .agg #[.slice A xs.length c, .slice B ls.length b, .slice Z bs.length e]) rfl (fun b4 => ?_))
  refine S.opS rfl rfl (OpV.box (v := hv root) rfl (fun b5 => ?_))
  refine S.opS rfl rfl (OpV.alloc Tryd.zero23 (fun b8 => ?_))
  refine S.q rfl rfl (Qt.assign (by conv => lhs; whnf)) ?_
  refine S.nil ?_
  refine TC.seq ?_
  refine TC.seq ?_
  refine TC.region ?_
  refine S.q rfl rfl (Qt.load rfl (Ld.hash1 (x := root) (Has.at 1 rfl) Tryd.row23 Tryd.cells23)) ?_
  refine S.q rfl rfl (Qt.move (by conv => lhs; whnf)) ?_
  refine S.q rfl rfl (Qt.field Tryd.underlying88 rfl Tryd.cells71 rfl) ?_
  refine S.q rfl rfl (Qt.load rfl (Ld.one (Has.at 2 rfl) Tryd.one71 (rfl))) ?_
  refine S.q rfl rfl (Qt.field Tryd.underlying88 rfl Tryd.cells44 rfl) ?_
  refine S.q rfl rfl (Qt.load rfl (Ld.one (Has.at 2 rfl) Tryd.one44 (rfl))) ?_
  refine S.q rfl rfl (Qt.field Tryd.underlying88 rfl Tryd.cells44 rfl) ?_
  refine S.q rfl rfl (Qt.load rfl (Ld.one (Has.at 2 rfl) Tryd.one44 (rfl))) ?_
  refine S.opS rfl rfl (OpV.con0 Tryd.ent60 rfl (fun w hw => (by have h := check10_R root z A c xs hc B b ls Z e bs hb hbs w hlow (Rd.ro hR w hw) (Rd.ro hB w hw) (Rd.ro hD w hw) (hT.at hw); rw [hck] at h; exact h : Calls Tryd.prog 60 #[hv root, .int .i64 z, .slice A xs.length c, .slice B ls.length b, .slice Z bs.length e] w (Ret w .nilIface))) ?_)
  refine S.q rfl rfl (Qt.assign (by conv => lhs; whnf)) ?_
  refine S.nil ?_
  refine TC.seq ?_
  refine TC.region ?_
  refine S.q rfl rfl (Qt.move (by conv => lhs; whnf)) ?_
  refine S.q rfl rfl (Qt.nenil_nil Tryd.underlying27 rfl) ?_
  refine S.nil ?_
  refine S.if_f rfl ?_
  refine TC.skip ?_
  refine TC.seq ?_
  refine TC.region ?_
  refine S.q rfl rfl (Qt.move (by conv => lhs; whnf)) ?_
  refine S.q rfl rfl (Qt.field Tryd.underlying88 rfl Tryd.cells71 rfl) ?_
  refine S.q rfl rfl (Qt.load rfl (Ld.one (Has.at 2 rfl) Tryd.one71 (rfl))) ?_
  refine S.q rfl rfl (Qt.move (by conv => lhs; whnf)) ?_
  refine S.q rfl rfl (Qt.field Tryd.underlying88 rfl Tryd.cells44 rfl) ?_
  refine S.q rfl rfl (Qt.load rfl (Ld.one (Has.at 2 rfl) Tryd.one44 (rfl))) ?_
  refine S.opS rfl rfl (OpV.con0 Tryd.ent57 rfl (fun w hw => root10_R z A c xs hc N n ns Z e bs hns hbs w hlow (Rd.ro hR w hw) (Rd.ro hN w hw) (Rd.ro hD w hw) (hT.at hw)) ?_)
  refine S.q rfl rfl (Qt.extract rfl rfl) ?_
  refine S.q rfl rfl (Qt.extract rfl rfl) ?_
  refine S.opN rfl (OpV.storeV0 (v := hv (_)) rfl rfl (hv_size Tryd.cells23) (hv_all _) (hv_len _) ?_)
  refine S.q rfl rfl (Qt.assign (by conv => lhs; whnf)) ?_
  refine S.nil ?_
  refine TC.ret ?_
  refine finQ.ret (RVs.cell rfl (Ld.all (Has.at 0 rfl) Tryd.row23 (hv_size Tryd.cells23)) (RVs.tmp (by conv => lhs; whnf) RVs.nil)) (Sub.nil _) ?_
  exact ⟨rfl, rfl⟩
theorem afterW_R (root : H32) (z : Int) (A : Option Addr) (c : Nat) (xs : List Nat) (hc : xs.length ≤ c) (B : Option Addr) (b : Nat) (ls : List H32) (Z : Option Addr) (e : Nat) (bs : List H32) (N : Option Addr) (n : Nat) (ns : List H32) (hb : ls.length ≤ b) (hbs : bs.length ≤ e) (hns : ns.length ≤ n) (w0 : World) (hlow : ∀ x ∈ xs, x < 18446744073709551616) (hR : Ro w0 [] (SlA A (u64s xs))) (hB : Ro w0 [] (SlA B (hcs ls))) (hD : Ro w0 [] (SlA Z (hcs bs))) (hN : Ro w0 [] (SlA N (hcs ns))) (hT : Tabs 2 0 w0 []) : Calls Tryd.prog 54 #[.agg #[.slice A xs.length c, .slice B ls.length b, .slice Z bs.length e], hv root, .int .i64 z, .slice N ns.length n] w0 (Ret w0 (.tuple #[hv (writeR root z xs ls bs ns).1, errv 58 (writeR root z xs ls bs ns).2])) := by
  by_cases hk : chkR root z xs ls bs = 0
  · rw [writeR, if_neg (fun h => h hk)]
    exact Calls.ret (aft_walk0 root z A c xs hc B b ls Z e bs N n ns hb hbs hns hk w0 hlow hR hB hD hN hT)
  · rw [writeR, if_pos hk, errv_pos hk]
    exact Calls.ret (aft_walkE root z A c xs hc B b ls Z e bs N n ns hb hbs hns _ hk rfl w0 hlow hR hB hD hN hT)

set_option maxHeartbeats 400000 in
theorem rwr_walkE (root : H32) (z : Int) (A : Option Addr) (c : Nat) (xs : List Nat) (hc : xs.length ≤ c) (B : Option Addr) (b : Nat) (ls : List H32) (Z : Option Addr) (e : Nat) (bs : List H32) (N : Option Addr) (n : Nat) (ns : List H32) (hb : ls.length ≤ b) (hbs : bs.length ≤ e) (hns : ns.length ≤ n) (hck : chkR root z xs ls bs ≠ 0) (w0 : World) (hlow : ∀ x ∈ xs, x < 18446744073709551616) (hR : Ro w0 [] (SlA A (u64s xs))) (hB : Ro w0 [] (SlA B (hcs ls))) (hD : Ro w0 [] (SlA Z (hcs bs))) (hN : Ro w0 [] (SlA N (hcs ns))) (hT : Tabs 3 1 w0 []) :
    Calls Tryd.prog 55 #[hv root, .int .i64 z, .slice A xs.length c, .slice B ls.length b, .slice Z bs.length e, .slice N ns.length n] w0 (Post w0 [] fun v L => v = .tuple #[hv zeroH, .int .i64 ((chkR root z xs ls bs : Nat) : Int)] ∧ L = []) := by
  refine Calls.of (L := []) (n := 39) (rs := [.cell 12 23, .tmp 13]) Tryd.func55 rfl rfl rfl (Nat.le_of_ble_eq_true rfl) (Sat.nil _) ?_
  refine TC.seq ?_
  refine TC.region ?_
  refine S.opS rfl rfl (OpV.box (v := hv root) rfl (fun b6 => ?_))
  refine S.opS rfl rfl (OpV.alloc Tryd.zero23 (fun b12 => ?_))
  refine S.q rfl rfl (Qt.assign (by conv => lhs; whnf)) ?_
  refine S.nil ?_
  refine TC.seq ?_
  refine TC.seq ?_
  refine TC.region ?_
  refine S.q rfl rfl (Qt.load rfl (Ld.hash1 (x := root) (Has.at 1 rfl) Tryd.row23 Tryd.cells23)) ?_
  refine S.q rfl rfl (Qt.move (by conv => lhs; whnf)) ?_
  refine S.q rfl rfl (Qt.move (by conv => lhs; whnf)) ?_
  refine S.q rfl rfl (Qt.move (by conv => lhs; whnf)) ?_
  refine S.q rfl rfl (Qt.move (by conv => lhs; whnf)) ?_
  refine S.opS rfl rfl (OpV.con0 Tryd.ent61 rfl (fun w hw => rchk10_R root z A c xs hc B b ls Z e bs hb hbs w hlow (Rd.ro hR w hw) (Rd.ro hB w hw) (Rd.ro hD w hw) (hT.at hw)) ?_)
  refine S.q rfl rfl (Qt.assign (by conv => lhs; whnf)) ?_
  refine S.nil ?_
  refine TC.seq ?_
  refine TC.region ?_
  refine S.q rfl rfl (Qt.move (by conv => lhs; whnf)) ?_
  refine S.q rfl rfl (Qt.dT (Qt.ne (b := 0) rfl rfl) (hck)) ?_
  refine S.nil ?_
  refine S.if_t rfl ?_
  refine TC.seq ?_
  refine TC.region ?_
  refine S.q rfl rfl (Qt.build (v := hv zeroH) rfl (fun _ => by kernel_rfl)) ?_
  refine S.q rfl rfl (Qt.move (by conv => lhs; whnf)) ?_
  refine S.opN rfl (OpV.storeV0 (v := hv (_)) rfl rfl (hv_size Tryd.cells23) (hv_all _) (hv_len _) ?_)
  refine S.q rfl rfl (Qt.assign (by conv => lhs; whnf)) ?_
  refine S.nil ?_
  refine TC.ret ?_
  refine finQ.ret (RVs.cell rfl (Ld.all (Has.at 0 rfl) Tryd.row23 (hv_size Tryd.cells23)) (RVs.tmp (by conv => lhs; whnf) RVs.nil)) (Sub.nil _) ?_
  exact ⟨rfl, rfl⟩
set_option maxHeartbeats 400000 in
theorem rwr_walk0 (root : H32) (z : Int) (A : Option Addr) (c : Nat) (xs : List Nat) (hc : xs.length ≤ c) (B : Option Addr) (b : Nat) (ls : List H32) (Z : Option Addr) (e : Nat) (bs : List H32) (N : Option Addr) (n : Nat) (ns : List H32) (hb : ls.length ≤ b) (hbs : bs.length ≤ e) (hns : ns.length ≤ n) (hck : chkR root z xs ls bs = 0) (w0 : World) (hlow : ∀ x ∈ xs, x < 18446744073709551616) (hR : Ro w0 [] (SlA A (u64s xs))) (hB : Ro w0 [] (SlA B (hcs ls))) (hD : Ro w0 [] (SlA Z (hcs bs))) (hN : Ro w0 [] (SlA N (hcs ns))) (hT : Tabs 3 1 w0 []) :
    Calls Tryd.prog 55 #[hv root, .int .i64 z, .slice A xs.length c, .slice B ls.length b, .slice Z bs.length e, .slice N ns.length n] w0 (Post w0 [] fun v L => v = .tuple #[hv (rootR z xs ns bs).1, .int .i64 (((rootR z xs ns bs).2 : Nat) : Int)] ∧ L = []) := by
  refine Calls.of (L := []) (n := 39) (rs := [.cell 12 23, .tmp 13]) Tryd.func55 rfl rfl rfl (Nat.le_of_ble_eq_true rfl) (Sat.nil _) ?_
  refine TC.seq ?_
  refine TC.region ?_
  refine S.opS rfl rfl (OpV.box (v := hv root) rfl (fun b6 => ?_))
  refine S.opS rfl rfl (OpV.alloc Tryd.zero23 (fun b12 => ?_))
  refine S.q rfl rfl (Qt.assign (by conv => lhs; whnf)) ?_
  refine S.nil ?_
  refine TC.seq ?_
  refine TC.seq ?_
  refine TC.region ?_
  refine S.q rfl rfl (Qt.load rfl (Ld.hash1 (x := root) (Has.at 1 rfl) Tryd.row23 Tryd.cells23)) ?_
  refine S.q rfl rfl (Qt.move (by conv => lhs; whnf)) ?_
  refine S.q rfl rfl (Qt.move (by conv => lhs; whnf)) ?_
  refine S.q rfl rfl (Qt.move (by conv => lhs; whnf)) ?_
  refine S.q rfl rfl (Qt.move (by conv => lhs; whnf)) ?_
  refine S.opS rfl rfl (OpV.con0 Tryd.ent61 rfl (fun w hw => rchk10_R root z A c xs hc B b ls Z e bs hb hbs w hlow (Rd.ro hR w hw) (Rd.ro hB w hw) (Rd.ro hD w hw) (hT.at hw)) ?_)
  refine S.q rfl rfl (Qt.assign (by conv => lhs; whnf)) ?_
  refine S.nil ?_
  refine TC.seq ?_
  refine TC.region ?_
  refine S.q rfl rfl (Qt.move (by conv => lhs; whnf)) ?_
  refine S.q rfl rfl (Qt.dF (Qt.ne (b := 0) rfl rfl) (fun h => h hck)) ?_
  refine S.nil ?_
  refine S.if_f rfl ?_
  refine TC.skip ?_
  refine TC.seq ?_
  refine TC.region ?_
  refine S.q rfl rfl (Qt.move (by conv => lhs; whnf)) ?_
  refine S.q rfl rfl (Qt.move (by conv => lhs; whnf)) ?_
  refine S.q rfl rfl (Qt.move (by conv => lhs; whnf)) ?_
  refine S.q rfl rfl (Qt.move (by conv => lhs; whnf)) ?_
  refine S.opS rfl rfl (OpV.con (Pre := []) (R := _) Tryd.ent53 rfl (List.Perm.refl _) (fun w hw => rtx_any z A c xs hc N n ns Z e bs w hlow (Rd.ro hR w hw) (Rd.ro hN w hw) (Rd.ro hD w hw) (hT.at hw)) ?_)
  rintro v L' ⟨⟨O, m, d, rfl⟩, rfl⟩
  refine S.q rfl rfl (Qt.move (by conv => lhs; whnf)) ?_
  refine S.q rfl rfl (Qt.extract rfl rfl) ?_
  refine S.q rfl rfl (Qt.extract rfl rfl) ?_
  refine S.q rfl rfl (Qt.extract rfl rfl) ?_
  refine S.opS rfl rfl (OpV.alloc Tryd.zero23 (fun b16 => ?_))
  refine S.q rfl rfl (Qt.assign (by conv => lhs; whnf)) ?_
  refine S.opN rfl (OpV.storeV0 (v := hv (_)) rfl rfl (hv_size Tryd.cells23) (hv_all _) (hv_len _) ?_)
  refine S.q rfl rfl (Qt.assign (by conv => lhs; whnf)) ?_
  refine S.nil ?_
  refine TC.seq ?_
  refine TC.region ?_
  refine S.q rfl rfl (Qt.load rfl (Ld.hash1 (x := (rootR z xs ns bs).1) (Has.at 0 rfl) Tryd.row23 Tryd.cells23)) ?_
  refine S.q rfl rfl (Qt.move (by conv => lhs; whnf)) ?_
  refine S.opN rfl (OpV.storeV1 (v := hv (_)) rfl rfl (hv_size Tryd.cells23) (hv_all _) (hv_len _) ?_)
  refine S.q rfl rfl (Qt.assign (by conv => lhs; whnf)) ?_
  refine S.nil ?_
  refine TC.ret ?_
  refine finQ.ret (RVs.cell rfl (Ld.all (Has.at 1 rfl) Tryd.row23 (hv_size Tryd.cells23)) (RVs.tmp (by conv => lhs; whnf) RVs.nil)) (Sub.nil _) ?_
  exact ⟨rfl, rfl⟩
theorem rwrite_R (root : H32) (z : Int) (A : Option Addr) (c : Nat) (xs : List Nat) (hc : xs.length ≤ c) (B : Option Addr) (b : Nat) (ls : List H32) (Z : Option Addr) (e : Nat) (bs : List H32) (N : Option Addr) (n : Nat) (ns : List H32) (hb : ls.length ≤ b) (hbs : bs.length ≤ e) (hns : ns.length ≤ n) (w0 : World) (hlow : ∀ x ∈ xs, x < 18446744073709551616) (hR : Ro w0 [] (SlA A (u64s xs))) (hB : Ro w0 [] (SlA B (hcs ls))) (hD : Ro w0 [] (SlA Z (hcs bs))) (hN : Ro w0 [] (SlA N (hcs ns))) (hT : Tabs 3 1 w0 []) : Calls Tryd.prog 55 #[hv root, .int .i64 z, .slice A xs.length c, .slice B ls.length b, .slice Z bs.length e, .slice N ns.length n] w0 (Ret w0 (.tuple #[hv (writeR root z xs ls bs ns).1, .int .i64 (((writeR root z xs ls bs ns).2 : Nat) : Int)])) := by
  by_cases hk : chkR root z xs ls bs = 0
  · rw [writeR, if_neg (fun h => h hk)]
    exact Calls.ret (rwr_walk0 root z A c xs hc B b ls Z e bs N n ns hb hbs hns hk w0 hlow hR hB hD hN hT)
  · rw [writeR, if_pos hk]
    exact Calls.ret (rwr_walkE root z A c xs hc B b ls Z e bs N n ns hb hbs hns hk w0 hlow hR hB hD hN hT)

set_option maxHeartbeats 1600000 in
theorem law9_walkE1 (E : Nat → H32) (hEm : ∀ w, Tabs 2 0 w [] → Calls Tryd.prog 88 #[] w (Ret w (.agg (hcs (emptL E)).toArray))) (hne : E 0 ≠ E 1) (z : Int) (A : Option Addr) (c : Nat) (xs : List Nat) (hc : xs.length ≤ c) (B : Option Addr) (b : Nat) (ls : List H32) (Z : Option Addr) (e : Nat) (bs : List H32) (N : Option Addr) (n : Nat) (ns : List H32) (R : Option Addr) (r : Nat) (rs : List H32) (hlg : largeP xs.length ls.length bs.length) (w0 : World)  (hT : Tabs 2 0 w0 [])  :
    Calls Tryd.prog 9 #[.int .i64 z, .agg #[.slice A xs.length c, .slice B ls.length b, .slice Z bs.length e], .agg #[.slice N ns.length n, .slice R rs.length r]] w0 (Post w0 [] fun v L => v = .bool true ∧ L = []) := by
  refine Calls.of (L := []) (n := 92) (rs := [.tmp 6]) Tryd.func9 rfl rfl rfl (Nat.le_of_ble_eq_true rfl) (Sat.nil _) ?_
  refine TC.seq ?_
  refine TC.region ?_
  refine S.opS rfl rfl (OpV.box (v := .agg #[.slice A xs.length c, .slice B ls.length b, .slice Z bs.length e]) rfl (fun b4 => ?_))
  refine S.opS rfl rfl (OpV.box (v := .agg #[.slice N ns.length n, .slice R rs.length r]) rfl (fun b5 => ?_))
  refine S.q rfl rfl (Qt.assign (by conv => lhs; whnf)) ?_
  refine S.nil ?_
  refine TC.seq ?_
  refine TC.seq ?_
  refine TC.region ?_
  refine S.opS rfl rfl (OpV.con0 Tryd.ent21 rfl (fun w hw => Calls.ret (alive12_walk E hEm hne w (hT.at hw))) ?_)
  refine S.q rfl rfl (Qt.not_t rfl) ?_
  refine S.nil ?_
  refine S.if_f rfl ?_
  refine TC.skip ?_
  refine TC.seq ?_
  refine TC.seq ?_
  refine TC.region ?_
  refine S.q rfl rfl (Qt.field Tryd.underlying88 rfl Tryd.cells71 rfl) ?_
  refine S.q rfl rfl (Qt.load rfl (Ld.one (Has.at 1 rfl) Tryd.one71 (rfl))) ?_
  refine S.q rfl rfl (Qt.field Tryd.underlying88 rfl Tryd.cells44 rfl) ?_
  refine S.q rfl rfl (Qt.load rfl (Ld.one (Has.at 1 rfl) Tryd.one44 (rfl))) ?_
  refine S.q rfl rfl (Qt.field Tryd.underlying88 rfl Tryd.cells44 rfl) ?_
  refine S.q rfl rfl (Qt.load rfl (Ld.one (Has.at 1 rfl) Tryd.one44 (rfl))) ?_
  refine S.opS rfl rfl (OpV.con0 Tryd.ent52 rfl (fun w hw => large_T A xs.length c B ls.length b Z bs.length e hlg w) ?_)
  refine S.q rfl rfl (Qt.move (by conv => lhs; whnf)) ?_
  refine S.pass rfl rfl ?_
  refine S.pass rfl rfl ?_
  refine S.pass rfl rfl ?_
  refine S.pass rfl rfl ?_
  refine S.q rfl rfl (Qt.pick_t rfl (by conv => lhs; whnf)) ?_
  refine S.q rfl rfl (Qt.move (by conv => lhs; whnf)) ?_
  refine S.pass rfl rfl ?_
  refine S.pass rfl rfl ?_
  refine S.pass rfl rfl ?_
  refine S.pass rfl rfl ?_
  refine S.q rfl rfl (Qt.pick_t rfl (by conv => lhs; whnf)) ?_
  refine S.nil ?_
  refine S.if_t rfl ?_
  refine TC.seq ?_
  refine TC.region ?_
  refine S.q rfl rfl (Qt.assign (by conv => lhs; whnf)) ?_
  refine S.nil ?_
  refine TC.ret ?_
  refine finQ.ret (RVs.tmp (by conv => lhs; whnf) RVs.nil) (Sub.nil _) ?_
  exact ⟨rfl, rfl⟩
set_option maxHeartbeats 1600000 in
theorem law9_walkE2 (E : Nat → H32) (hEm : ∀ w, Tabs 2 0 w [] → Calls Tryd.prog 88 #[] w (Ret w (.agg (hcs (emptL E)).toArray))) (hne : E 0 ≠ E 1) (z : Int) (A : Option Addr) (c : Nat) (xs : List Nat) (hc : xs.length ≤ c) (B : Option Addr) (b : Nat) (ls : List H32) (Z : Option Addr) (e : Nat) (bs : List H32) (N : Option Addr) (n : Nat) (ns : List H32) (R : Option Addr) (r : Nat) (rs : List H32) (hlg : ¬ largeP xs.length ls.length bs.length) (h2 : 300 < ns.length) (w0 : World)  (hT : Tabs 2 0 w0 [])  :
    Calls Tryd.prog 9 #[.int .i64 z, .agg #[.slice A xs.length c, .slice B ls.length b, .slice Z bs.length e], .agg #[.slice N ns.length n, .slice R rs.length r]] w0 (Post w0 [] fun v L => v = .bool true ∧ L = []) := by
  refine Calls.of (L := []) (n := 92) (rs := [.tmp 6]) Tryd.func9 rfl rfl rfl (Nat.le_of_ble_eq_true rfl) (Sat.nil _) ?_
  refine TC.seq ?_
  refine TC.region ?_
  refine S.opS rfl rfl (OpV.box (v := .agg #[.slice A xs.length c, .slice B ls.length b, .slice Z bs.length e]) rfl (fun b4 => ?_))
  refine S.opS rfl rfl (OpV.box (v := .agg #[.slice N ns.length n, .slice R rs.length r]) rfl (fun b5 => ?_))
  refine S.q rfl rfl (Qt.assign (by conv => lhs; whnf)) ?_
  refine S.nil ?_
  refine TC.seq ?_
  refine TC.seq ?_
  refine TC.region ?_
  refine S.opS rfl rfl (OpV.con0 Tryd.ent21 rfl (fun w hw => Calls.ret (alive12_walk E hEm hne w (hT.at hw))) ?_)
  refine S.q rfl rfl (Qt.not_t rfl) ?_
  refine S.nil ?_
  refine S.if_f rfl ?_
  refine TC.skip ?_
  refine TC.seq ?_
  refine TC.seq ?_
  refine TC.region ?_
  refine S.q rfl rfl (Qt.field Tryd.underlying88 rfl Tryd.cells71 rfl) ?_
  refine S.q rfl rfl (Qt.load rfl (Ld.one (Has.at 1 rfl) Tryd.one71 (rfl))) ?_
  refine S.q rfl rfl (Qt.field Tryd.underlying88 rfl Tryd.cells44 rfl) ?_
  refine S.q rfl rfl (Qt.load rfl (Ld.one (Has.at 1 rfl) Tryd.one44 (rfl))) ?_
  refine S.q rfl rfl (Qt.field Tryd.underlying88 rfl Tryd.cells44 rfl) ?_
  refine S.q rfl rfl (Qt.load rfl (Ld.one (Has.at 1 rfl) Tryd.one44 (rfl))) ?_
  refine S.opS rfl rfl (OpV.con0 Tryd.ent52 rfl (fun w hw => large_F A xs.length c B ls.length b Z bs.length e hlg w) ?_)
  refine S.q rfl rfl (Qt.move (by conv => lhs; whnf)) ?_
  refine S.qg rfl rfl rfl (Qt.indexB (i := 0) Tryd.underlying89 Tryd.cells44 rfl rfl (by omega)) ?_
  refine S.qg rfl rfl rfl (Qt.load rfl (Ld.one (v := .slice N ns.length n) (Has.at 0 rfl) Tryd.one44 rfl)) ?_
  refine S.qg rfl rfl rfl (Qt.len_slice Tryd.underlying44 rfl) ?_
  refine S.qg rfl rfl rfl (Qt.dT (Qt.gt (b := 300) rfl rfl) (by omega)) ?_
  refine S.q rfl rfl (Qt.pick_f rfl (by conv => lhs; whnf)) ?_
  refine S.q rfl rfl (Qt.move (by conv => lhs; whnf)) ?_
  refine S.pass rfl rfl ?_
  refine S.pass rfl rfl ?_
  refine S.pass rfl rfl ?_
  refine S.pass rfl rfl ?_
  refine S.q rfl rfl (Qt.pick_t rfl (by conv => lhs; whnf)) ?_
  refine S.nil ?_
  refine S.if_t rfl ?_
  refine TC.seq ?_
  refine TC.region ?_
  refine S.q rfl rfl (Qt.assign (by conv => lhs; whnf)) ?_
  refine S.nil ?_
  refine TC.ret ?_
  refine finQ.ret (RVs.tmp (by conv => lhs; whnf) RVs.nil) (Sub.nil _) ?_
  exact ⟨rfl, rfl⟩
set_option maxHeartbeats 1600000 in
theorem law9_walkE3 (E : Nat → H32) (hEm : ∀ w, Tabs 2 0 w [] → Calls Tryd.prog 88 #[] w (Ret w (.agg (hcs (emptL E)).toArray))) (hne : E 0 ≠ E 1) (z : Int) (A : Option Addr) (c : Nat) (xs : List Nat) (hc : xs.length ≤ c) (B : Option Addr) (b : Nat) (ls : List H32) (Z : Option Addr) (e : Nat) (bs : List H32) (N : Option Addr) (n : Nat) (ns : List H32) (R : Option Addr) (r : Nat) (rs : List H32) (hlg : ¬ largeP xs.length ls.length bs.length) (h2 : ns.length ≤ 300) (h3 : 1 < rs.length) (w0 : World)  (hT : Tabs 2 0 w0 [])  :
    Calls Tryd.prog 9 #[.int .i64 z, .agg #[.slice A xs.length c, .slice B ls.length b, .slice Z bs.length e], .agg #[.slice N ns.length n, .slice R rs.length r]] w0 (Post w0 [] fun v L => v = .bool true ∧ L = []) := by
  refine Calls.of (L := []) (n := 92) (rs := [.tmp 6]) Tryd.func9 rfl rfl rfl (Nat.le_of_ble_eq_true rfl) (Sat.nil _) ?_
  refine TC.seq ?_
  refine TC.region ?_
  refine S.opS rfl rfl (OpV.box (v := .agg #[.slice A xs.length c, .slice B ls.length b, .slice Z bs.length e]) rfl (fun b4 => ?_))
  refine S.opS rfl rfl (OpV.box (v := .agg #[.slice N ns.length n, .slice R rs.length r]) rfl (fun b5 => ?_))
  refine S.q rfl rfl (Qt.assign (by conv => lhs; whnf)) ?_
  refine S.nil ?_
  refine TC.seq ?_
  refine TC.seq ?_
  refine TC.region ?_
  refine S.opS rfl rfl (OpV.con0 Tryd.ent21 rfl (fun w hw => Calls.ret (alive12_walk E hEm hne w (hT.at hw))) ?_)
  refine S.q rfl rfl (Qt.not_t rfl) ?_
  refine S.nil ?_
  refine S.if_f rfl ?_
  refine TC.skip ?_
  refine TC.seq ?_
  refine TC.seq ?_
  refine TC.region ?_
  refine S.q rfl rfl (Qt.field Tryd.underlying88 rfl Tryd.cells71 rfl) ?_
  refine S.q rfl rfl (Qt.load rfl (Ld.one (Has.at 1 rfl) Tryd.one71 (rfl))) ?_
  refine S.q rfl rfl (Qt.field Tryd.underlying88 rfl Tryd.cells44 rfl) ?_
  refine S.q rfl rfl (Qt.load rfl (Ld.one (Has.at 1 rfl) Tryd.one44 (rfl))) ?_
  refine S.q rfl rfl (Qt.field Tryd.underlying88 rfl Tryd.cells44 rfl) ?_
  refine S.q rfl rfl (Qt.load rfl (Ld.one (Has.at 1 rfl) Tryd.one44 (rfl))) ?_
  refine S.opS rfl rfl (OpV.con0 Tryd.ent52 rfl (fun w hw => large_F A xs.length c B ls.length b Z bs.length e hlg w) ?_)
  refine S.q rfl rfl (Qt.move (by conv => lhs; whnf)) ?_
  refine S.qg rfl rfl rfl (Qt.indexB (i := 0) Tryd.underlying89 Tryd.cells44 rfl rfl (by omega)) ?_
  refine S.qg rfl rfl rfl (Qt.load rfl (Ld.one (v := .slice N ns.length n) (Has.at 0 rfl) Tryd.one44 rfl)) ?_
  refine S.qg rfl rfl rfl (Qt.len_slice Tryd.underlying44 rfl) ?_
  refine S.qg rfl rfl rfl (Qt.dF (Qt.gt (b := 300) rfl rfl) (by omega)) ?_
  refine S.q rfl rfl (Qt.pick_f rfl (by conv => lhs; whnf)) ?_
  refine S.q rfl rfl (Qt.move (by conv => lhs; whnf)) ?_
  refine S.qg rfl rfl rfl (Qt.indexB (i := 1) Tryd.underlying89 Tryd.cells44 rfl rfl (by omega)) ?_
  refine S.qg rfl rfl rfl (Qt.load rfl (Ld.one (v := .slice R rs.length r) (Has.at 0 rfl) Tryd.one44 rfl)) ?_
  refine S.qg rfl rfl rfl (Qt.len_slice Tryd.underlying44 rfl) ?_
  refine S.qg rfl rfl rfl (Qt.dT (Qt.gt (b := 1) rfl rfl) (by omega)) ?_
  refine S.q rfl rfl (Qt.pick_f rfl (by conv => lhs; whnf)) ?_
  refine S.nil ?_
  refine S.if_t rfl ?_
  refine TC.seq ?_
  refine TC.region ?_
  refine S.q rfl rfl (Qt.assign (by conv => lhs; whnf)) ?_
  refine S.nil ?_
  refine TC.ret ?_
  refine finQ.ret (RVs.tmp (by conv => lhs; whnf) RVs.nil) (Sub.nil _) ?_
  exact ⟨rfl, rfl⟩
set_option maxHeartbeats 1600000 in
theorem law9_walk (E : Nat → H32) (hEm : ∀ w, Tabs 2 0 w [] → Calls Tryd.prog 88 #[] w (Ret w (.agg (hcs (emptL E)).toArray))) (hne : E 0 ≠ E 1) (z : Int) (A : Option Addr) (c : Nat) (xs : List Nat) (hc : xs.length ≤ c) (B : Option Addr) (b : Nat) (ls : List H32) (Z : Option Addr) (e : Nat) (bs : List H32) (N : Option Addr) (n : Nat) (ns : List H32) (R : Option Addr) (r : Nat) (rs : List H32) (hlg : ¬ largeP xs.length ls.length bs.length) (h2 : ns.length ≤ 300) (h3 : rs.length ≤ 1) (hb : ls.length ≤ b) (hbs : bs.length ≤ e) (hns : ns.length ≤ n) (w0 : World) (hlow : ∀ x ∈ xs, x < 18446744073709551616) (hR : Ro w0 [] (SlA A (u64s xs))) (hB : Ro w0 [] (SlA B (hcs ls))) (hD : Ro w0 [] (SlA Z (hcs bs))) (hN : Ro w0 [] (SlA N (hcs ns))) (hS : Ro w0 [] (SlA R (hcs rs))) (hT : Tabs 2 0 w0 []) (hT2 : Tabs 3 1 w0 []) :
    Calls Tryd.prog 9 #[.int .i64 z, .agg #[.slice A xs.length c, .slice B ls.length b, .slice Z bs.length e], .agg #[.slice N ns.length n, .slice R rs.length r]] w0 (Post w0 [] fun v L => v = .bool true ∧ L = []) := by
  refine Calls.of (L := []) (n := 92) (rs := [.tmp 6]) Tryd.func9 rfl rfl rfl (Nat.le_of_ble_eq_true rfl) (Sat.nil _) ?_
  refine TC.seq ?_
  refine TC.region ?_
  refine S.opS rfl rfl (OpV.box (v := .agg #[.slice A xs.length c, .slice B ls.length b, .slice Z bs.length e]) rfl (fun b4 => ?_))
  refine S.opS rfl rfl (OpV.box (v := .agg #[.slice N ns.length n, .slice R rs.length r]) rfl (fun b5 => ?_))
  refine S.q rfl rfl (Qt.assign (by conv => lhs; whnf)) ?_
  refine S.nil ?_
  refine TC.seq ?_
  refine TC.seq ?_
  refine TC.region ?_
  refine S.opS rfl rfl (OpV.con0 Tryd.ent21 rfl (fun w hw => Calls.ret (alive12_walk E hEm hne w (hT.at hw))) ?_)
  refine S.q rfl rfl (Qt.not_t rfl) ?_
  refine S.nil ?_
  refine S.if_f rfl ?_
  refine TC.skip ?_
  refine TC.seq ?_
  refine TC.seq ?_
  refine TC.region ?_
  refine S.q rfl rfl (Qt.field Tryd.underlying88 rfl Tryd.cells71 rfl) ?_
  refine S.q rfl rfl (Qt.load rfl (Ld.one (Has.at 1 rfl) Tryd.one71 (rfl))) ?_
  refine S.q rfl rfl (Qt.field Tryd.underlying88 rfl Tryd.cells44 rfl) ?_
  refine S.q rfl rfl (Qt.load rfl (Ld.one (Has.at 1 rfl) Tryd.one44 (rfl))) ?_
  refine S.q rfl rfl (Qt.field Tryd.underlying88 rfl Tryd.cells44 rfl) ?_
  refine S.q rfl rfl (Qt.load rfl (Ld.one (Has.at 1 rfl) Tryd.one44 (rfl))) ?_
  refine S.opS rfl rfl (OpV.con0 Tryd.ent52 rfl (fun w hw => large_F A xs.length c B ls.length b Z bs.length e hlg w) ?_)
  refine S.q rfl rfl (Qt.move (by conv => lhs; whnf)) ?_
  refine S.qg rfl rfl rfl (Qt.indexB (i := 0) Tryd.underlying89 Tryd.cells44 rfl rfl (by omega)) ?_
  refine S.qg rfl rfl rfl (Qt.load rfl (Ld.one (v := .slice N ns.length n) (Has.at 0 rfl) Tryd.one44 rfl)) ?_
  refine S.qg rfl rfl rfl (Qt.len_slice Tryd.underlying44 rfl) ?_
  refine S.qg rfl rfl rfl (Qt.dF (Qt.gt (b := 300) rfl rfl) (by omega)) ?_
  refine S.q rfl rfl (Qt.pick_f rfl (by conv => lhs; whnf)) ?_
  refine S.q rfl rfl (Qt.move (by conv => lhs; whnf)) ?_
  refine S.qg rfl rfl rfl (Qt.indexB (i := 1) Tryd.underlying89 Tryd.cells44 rfl rfl (by omega)) ?_
  refine S.qg rfl rfl rfl (Qt.load rfl (Ld.one (v := .slice R rs.length r) (Has.at 0 rfl) Tryd.one44 rfl)) ?_
  refine S.qg rfl rfl rfl (Qt.len_slice Tryd.underlying44 rfl) ?_
  refine S.qg rfl rfl rfl (Qt.dF (Qt.gt (b := 1) rfl rfl) (by omega)) ?_
  refine S.q rfl rfl (Qt.pick_f rfl (by conv => lhs; whnf)) ?_
  refine S.nil ?_
  refine S.if_f rfl ?_
  refine TC.skip ?_
  refine TC.seq ?_
  refine TC.region ?_
  refine S.q rfl rfl (Qt.build (v := hv H3s) rfl (fun _ => by kernel_rfl)) ?_
  refine S.opS rfl rfl (OpV.alloc Tryd.zero23 (fun b7 => ?_))
  refine S.opN rfl (OpV.storeV0 (v := hv (H3s)) rfl rfl (hv_size Tryd.cells23) (hv_all _) (hv_len _) ?_)
  refine S.nil ?_
  refine TC.seq ?_
  refine TC.seq ?_
  refine TC.region ?_
  refine S.q rfl rfl (Qt.indexB (i := 1) Tryd.underlying89 Tryd.cells44 rfl rfl (by omega)) ?_
  refine S.q rfl rfl (Qt.load rfl (Ld.one (v := .slice R rs.length r) (Has.at 1 rfl) Tryd.one44 rfl)) ?_
  refine S.q rfl rfl (Qt.len_slice Tryd.underlying44 rfl) ?_
  refine S.dec rfl rfl (Qt.gt (b := 0) rfl rfl) (fun h40 => ?_) (fun h40 => ?_)
  · refine S.nil ?_
    refine S.if_t rfl ?_
    refine TC.region ?_
    refine S.q rfl rfl (Qt.indexB (i := 1) Tryd.underlying89 Tryd.cells44 rfl rfl (by omega)) ?_
    refine S.q rfl rfl (Qt.load rfl (Ld.one (v := .slice R rs.length r) (Has.at 1 rfl) Tryd.one44 rfl)) ?_
    refine S.q rfl rfl (Qt.index (i := 0) Tryd.underlying44 Tryd.cells23 rfl rfl (by omega) (Has.ro hS) (by rw [hcs_length]; omega)) ?_
    refine S.q rfl rfl (Qt.load rfl (Ld.hashS (Has.ro hS) 0 Tryd.row23 Tryd.cells23 h40 rfl)) ?_
    refine S.opN rfl (OpV.storeV0 (v := hv (_)) rfl rfl (hv_size Tryd.cells23) (hv_all _) (by rw [hv_len, hv_len]) ?_)
    refine S.nil ?_
    refine TC.seq ?_
    refine TC.region ?_
    refine S.q rfl rfl (Qt.load rfl (Ld.all (Has.at 2 rfl) Tryd.row88 (Tryd.cells88))) ?_
    refine S.q rfl rfl (Qt.load rfl (Ld.hash1 (x := (rs.getD 0 zeroH)) (Has.at 0 rfl) Tryd.row23 Tryd.cells23)) ?_
    refine S.q rfl rfl (Qt.move (by conv => lhs; whnf)) ?_
    refine S.q rfl rfl (Qt.indexB (i := 0) Tryd.underlying89 Tryd.cells44 rfl rfl (by omega)) ?_
    refine S.q rfl rfl (Qt.load rfl (Ld.one (v := .slice N ns.length n) (Has.at 1 rfl) Tryd.one44 rfl)) ?_
    refine S.opS rfl rfl (OpV.con0 Tryd.ent54 rfl (fun w hw => afterW_R (rs.getD 0 zeroH) z A c xs hc B b ls Z e bs N n ns hb hbs hns w hlow (Rd.ro hR w hw) (Rd.ro hB w hw) (Rd.ro hD w hw) (Rd.ro hN w hw) (hT.at hw)) ?_)
    refine S.q rfl rfl (Qt.move (by conv => lhs; whnf)) ?_
    refine S.q rfl rfl (Qt.extract rfl rfl) ?_
    refine S.q rfl rfl (Qt.extract rfl rfl) ?_
    refine S.opS rfl rfl (OpV.alloc Tryd.zero23 (fun b11 => ?_))
    refine S.opN rfl (OpV.storeV0 (v := hv (_)) rfl rfl (hv_size Tryd.cells23) (hv_all _) (hv_len _) ?_)
    refine S.q rfl rfl (Qt.assign (by conv => lhs; whnf)) ?_
    refine S.nil ?_
    refine TC.seq ?_
    refine TC.region ?_
    refine S.q rfl rfl (Qt.load rfl (Ld.hash1 (x := (rs.getD 0 zeroH)) (Has.at 1 rfl) Tryd.row23 Tryd.cells23)) ?_
    refine S.q rfl rfl (Qt.move (by conv => lhs; whnf)) ?_
    refine S.q rfl rfl (Qt.field Tryd.underlying88 rfl Tryd.cells71 rfl) ?_
    refine S.q rfl rfl (Qt.load rfl (Ld.one (Has.at 3 rfl) Tryd.one71 (rfl))) ?_
    refine S.q rfl rfl (Qt.field Tryd.underlying88 rfl Tryd.cells44 rfl) ?_
    refine S.q rfl rfl (Qt.load rfl (Ld.one (Has.at 3 rfl) Tryd.one44 (rfl))) ?_
    refine S.q rfl rfl (Qt.field Tryd.underlying88 rfl Tryd.cells44 rfl) ?_
    refine S.q rfl rfl (Qt.load rfl (Ld.one (Has.at 3 rfl) Tryd.one44 (rfl))) ?_
    refine S.q rfl rfl (Qt.indexB (i := 0) Tryd.underlying89 Tryd.cells44 rfl rfl (by omega)) ?_
    refine S.q rfl rfl (Qt.load rfl (Ld.one (v := .slice N ns.length n) (Has.at 2 rfl) Tryd.one44 rfl)) ?_
    refine S.opS rfl rfl (OpV.con0 Tryd.ent55 rfl (fun w hw => rwrite_R (rs.getD 0 zeroH) z A c xs hc B b ls Z e bs N n ns hb hbs hns w hlow (Rd.ro hR w hw) (Rd.ro hB w hw) (Rd.ro hD w hw) (Rd.ro hN w hw) (hT2.at hw)) ?_)
    refine S.q rfl rfl (Qt.move (by conv => lhs; whnf)) ?_
    refine S.q rfl rfl (Qt.extract rfl rfl) ?_
    refine S.q rfl rfl (Qt.extract rfl rfl) ?_
    refine S.opS rfl rfl (OpV.alloc Tryd.zero23 (fun b13 => ?_))
    refine S.opN rfl (OpV.storeV0 (v := hv (_)) rfl rfl (hv_size Tryd.cells23) (hv_all _) (hv_len _) ?_)
    refine S.q rfl rfl (Qt.assign (by conv => lhs; whnf)) ?_
    refine S.nil ?_
    refine TC.seq ?_
    refine TC.region ?_
    refine S.q rfl rfl (Qt.load rfl (Ld.hash1 (x := (writeR (rs.getD 0 zeroH) z xs ls bs ns).1) (Has.at 1 rfl) Tryd.row23 Tryd.cells23)) ?_
    refine S.q rfl rfl (Qt.load rfl (Ld.hash1 (x := (writeR (rs.getD 0 zeroH) z xs ls bs ns).1) (Has.at 0 rfl) Tryd.row23 Tryd.cells23)) ?_
    refine S.q rfl rfl (Qt.dT (Qt.eqH (a := (writeR (rs.getD 0 zeroH) z xs ls bs ns).1) (b := (writeR (rs.getD 0 zeroH) z xs ls bs ns).1) Tryd.guard23 Tryd.underlying23 Tryd.underlying5 Tryd.cells5 rfl rfl) rfl) ?_
    refine S.q rfl rfl (Qt.move (by conv => lhs; whnf)) ?_
    refine S.qg rfl rfl rfl (Qt.move (by conv => lhs; whnf)) ?_
    refine S.opg rfl rfl rfl (OpV.con0 Tryd.ent24 rfl (fun w hw => num_R (writeR (rs.getD 0 zeroH) z xs ls bs ns).2 w) ?_)
    refine S.qg rfl rfl rfl (Qt.move (by conv => lhs; whnf)) ?_
    refine S.qg rfl rfl rfl (Qt.dT (Qt.eq rfl rfl) (rfl)) ?_
    refine S.q rfl rfl (Qt.pick_t rfl (by conv => lhs; whnf)) ?_
    refine S.q rfl rfl (Qt.assign (by conv => lhs; whnf)) ?_
    refine S.nil ?_
    refine TC.ret ?_
    refine finQ.ret (RVs.tmp (by conv => lhs; whnf) RVs.nil) (Sub.nil _) ?_
    exact ⟨rfl, rfl⟩
  · refine S.nil ?_
    refine S.if_f rfl ?_
    refine TC.seq ?_
    refine TC.region ?_
    refine S.q rfl rfl (Qt.move (by conv => lhs; whnf)) ?_
    refine S.q rfl rfl (Qt.field Tryd.underlying88 rfl Tryd.cells71 rfl) ?_
    refine S.q rfl rfl (Qt.load rfl (Ld.one (Has.at 2 rfl) Tryd.one71 (rfl))) ?_
    refine S.q rfl rfl (Qt.field Tryd.underlying88 rfl Tryd.cells44 rfl) ?_
    refine S.q rfl rfl (Qt.load rfl (Ld.one (Has.at 2 rfl) Tryd.one44 (rfl))) ?_
    refine S.q rfl rfl (Qt.field Tryd.underlying88 rfl Tryd.cells44 rfl) ?_
    refine S.q rfl rfl (Qt.load rfl (Ld.one (Has.at 2 rfl) Tryd.one44 (rfl))) ?_
    refine S.opS rfl rfl (OpV.con (Pre := []) (R := _) Tryd.ent53 rfl (List.Perm.refl _) (fun w hw => rtx_any z A c xs hc B b ls Z e bs w hlow (Rd.ro hR w hw) (Rd.ro hB w hw) (Rd.ro hD w hw) (hT2.at hw)) ?_)
    rintro v L' ⟨⟨O, m, d, rfl⟩, rfl⟩
    refine S.q rfl rfl (Qt.move (by conv => lhs; whnf)) ?_
    refine S.q rfl rfl (Qt.extract rfl rfl) ?_
    refine S.q rfl rfl (Qt.extract rfl rfl) ?_
    refine S.q rfl rfl (Qt.extract rfl rfl) ?_
    refine S.opS rfl rfl (OpV.alloc Tryd.zero23 (fun b9 => ?_))
    refine S.q rfl rfl (Qt.assign (by conv => lhs; whnf)) ?_
    refine S.opN rfl (OpV.storeV0 (v := hv (_)) rfl rfl (hv_size Tryd.cells23) (hv_all _) (hv_len _) ?_)
    refine S.q rfl rfl (Qt.assign (by conv => lhs; whnf)) ?_
    refine S.nil ?_
    refine TC.seq ?_
    refine TC.region ?_
    refine S.q rfl rfl (Qt.move (by conv => lhs; whnf)) ?_
    refine S.dec rfl rfl (Qt.eq (b := 0) rfl rfl) (fun h58 => ?_) (fun h58 => ?_)
    · refine S.nil ?_
      refine S.if_t rfl ?_
      refine TC.region ?_
      refine S.q rfl rfl (Qt.load rfl (Ld.hash1 (x := (rootR z xs ls bs).1) (Has.at 0 rfl) Tryd.row23 Tryd.cells23)) ?_
      refine S.opN rfl (OpV.storeV1 (v := hv (_)) rfl rfl (hv_size Tryd.cells23) (hv_all _) (by rw [hv_len, hv_len]) ?_)
      refine S.nil ?_
      refine TC.seq ?_
      refine TC.region ?_
      refine S.q rfl rfl (Qt.load rfl (Ld.all (Has.at 3 rfl) Tryd.row88 (Tryd.cells88))) ?_
      refine S.q rfl rfl (Qt.load rfl (Ld.hash1 (x := (rootR z xs ls bs).1) (Has.at 1 rfl) Tryd.row23 Tryd.cells23)) ?_
      refine S.q rfl rfl (Qt.move (by conv => lhs; whnf)) ?_
      refine S.q rfl rfl (Qt.indexB (i := 0) Tryd.underlying89 Tryd.cells44 rfl rfl (by omega)) ?_
      refine S.q rfl rfl (Qt.load rfl (Ld.one (v := .slice N ns.length n) (Has.at 2 rfl) Tryd.one44 rfl)) ?_
      refine S.opS rfl rfl (OpV.con0 Tryd.ent54 rfl (fun w hw => afterW_R (rootR z xs ls bs).1 z A c xs hc B b ls Z e bs N n ns hb hbs hns w hlow (Rd.ro hR w hw) (Rd.ro hB w hw) (Rd.ro hD w hw) (Rd.ro hN w hw) (hT.at hw)) ?_)
      refine S.q rfl rfl (Qt.move (by conv => lhs; whnf)) ?_
      refine S.q rfl rfl (Qt.extract rfl rfl) ?_
      refine S.q rfl rfl (Qt.extract rfl rfl) ?_
      refine S.opS rfl rfl (OpV.alloc Tryd.zero23 (fun b11 => ?_))
      refine S.opN rfl (OpV.storeV0 (v := hv (_)) rfl rfl (hv_size Tryd.cells23) (hv_all _) (hv_len _) ?_)
      refine S.q rfl rfl (Qt.assign (by conv => lhs; whnf)) ?_
      refine S.nil ?_
      refine TC.seq ?_
      refine TC.region ?_
      refine S.q rfl rfl (Qt.load rfl (Ld.hash1 (x := (rootR z xs ls bs).1) (Has.at 2 rfl) Tryd.row23 Tryd.cells23)) ?_
      refine S.q rfl rfl (Qt.move (by conv => lhs; whnf)) ?_
      refine S.q rfl rfl (Qt.field Tryd.underlying88 rfl Tryd.cells71 rfl) ?_
      refine S.q rfl rfl (Qt.load rfl (Ld.one (Has.at 4 rfl) Tryd.one71 (rfl))) ?_
      refine S.q rfl rfl (Qt.field Tryd.underlying88 rfl Tryd.cells44 rfl) ?_
      refine S.q rfl rfl (Qt.load rfl (Ld.one (Has.at 4 rfl) Tryd.one44 (rfl))) ?_
      refine S.q rfl rfl (Qt.field Tryd.underlying88 rfl Tryd.cells44 rfl) ?_
      refine S.q rfl rfl (Qt.load rfl (Ld.one (Has.at 4 rfl) Tryd.one44 (rfl))) ?_
      refine S.q rfl rfl (Qt.indexB (i := 0) Tryd.underlying89 Tryd.cells44 rfl rfl (by omega)) ?_
      refine S.q rfl rfl (Qt.load rfl (Ld.one (v := .slice N ns.length n) (Has.at 3 rfl) Tryd.one44 rfl)) ?_
      refine S.opS rfl rfl (OpV.con0 Tryd.ent55 rfl (fun w hw => rwrite_R (rootR z xs ls bs).1 z A c xs hc B b ls Z e bs N n ns hb hbs hns w hlow (Rd.ro hR w hw) (Rd.ro hB w hw) (Rd.ro hD w hw) (Rd.ro hN w hw) (hT2.at hw)) ?_)
      refine S.q rfl rfl (Qt.move (by conv => lhs; whnf)) ?_
      refine S.q rfl rfl (Qt.extract rfl rfl) ?_
      refine S.q rfl rfl (Qt.extract rfl rfl) ?_
      refine S.opS rfl rfl (OpV.alloc Tryd.zero23 (fun b13 => ?_))
      refine S.opN rfl (OpV.storeV0 (v := hv (_)) rfl rfl (hv_size Tryd.cells23) (hv_all _) (hv_len _) ?_)
      refine S.q rfl rfl (Qt.assign (by conv => lhs; whnf)) ?_
      refine S.nil ?_
      refine TC.seq ?_
      refine TC.region ?_
      refine S.q rfl rfl (Qt.load rfl (Ld.hash1 (x := (writeR (rootR z xs ls bs).1 z xs ls bs ns).1) (Has.at 1 rfl) Tryd.row23 Tryd.cells23)) ?_
      refine S.q rfl rfl (Qt.load rfl (Ld.hash1 (x := (writeR (rootR z xs ls bs).1 z xs ls bs ns).1) (Has.at 0 rfl) Tryd.row23 Tryd.cells23)) ?_
      refine S.q rfl rfl (Qt.dT (Qt.eqH (a := (writeR (rootR z xs ls bs).1 z xs ls bs ns).1) (b := (writeR (rootR z xs ls bs).1 z xs ls bs ns).1) Tryd.guard23 Tryd.underlying23 Tryd.underlying5 Tryd.cells5 rfl rfl) rfl) ?_
      refine S.q rfl rfl (Qt.move (by conv => lhs; whnf)) ?_
      refine S.qg rfl rfl rfl (Qt.move (by conv => lhs; whnf)) ?_
      refine S.opg rfl rfl rfl (OpV.con0 Tryd.ent24 rfl (fun w hw => num_R (writeR (rootR z xs ls bs).1 z xs ls bs ns).2 w) ?_)
      refine S.qg rfl rfl rfl (Qt.move (by conv => lhs; whnf)) ?_
      refine S.qg rfl rfl rfl (Qt.dT (Qt.eq rfl rfl) (rfl)) ?_
      refine S.q rfl rfl (Qt.pick_t rfl (by conv => lhs; whnf)) ?_
      refine S.q rfl rfl (Qt.assign (by conv => lhs; whnf)) ?_
      refine S.nil ?_
      refine TC.ret ?_
      refine finQ.ret (RVs.tmp (by conv => lhs; whnf) RVs.nil) (Sub.nil _) ?_
      exact ⟨rfl, rfl⟩
    · refine S.nil ?_
      refine S.if_f rfl ?_
      refine TC.skip ?_
      refine TC.seq ?_
      refine TC.region ?_
      refine S.q rfl rfl (Qt.load rfl (Ld.all (Has.at 3 rfl) Tryd.row88 (Tryd.cells88))) ?_
      refine S.q rfl rfl (Qt.load rfl (Ld.hash1 (x := H3s) (Has.at 1 rfl) Tryd.row23 Tryd.cells23)) ?_
      refine S.q rfl rfl (Qt.move (by conv => lhs; whnf)) ?_
      refine S.q rfl rfl (Qt.indexB (i := 0) Tryd.underlying89 Tryd.cells44 rfl rfl (by omega)) ?_
      refine S.q rfl rfl (Qt.load rfl (Ld.one (v := .slice N ns.length n) (Has.at 2 rfl) Tryd.one44 rfl)) ?_
      refine S.opS rfl rfl (OpV.con0 Tryd.ent54 rfl (fun w hw => afterW_R H3s z A c xs hc B b ls Z e bs N n ns hb hbs hns w hlow (Rd.ro hR w hw) (Rd.ro hB w hw) (Rd.ro hD w hw) (Rd.ro hN w hw) (hT.at hw)) ?_)
      refine S.q rfl rfl (Qt.move (by conv => lhs; whnf)) ?_
      refine S.q rfl rfl (Qt.extract rfl rfl) ?_
      refine S.q rfl rfl (Qt.extract rfl rfl) ?_
      refine S.opS rfl rfl (OpV.alloc Tryd.zero23 (fun b11 => ?_))
      refine S.opN rfl (OpV.storeV0 (v := hv (_)) rfl rfl (hv_size Tryd.cells23) (hv_all _) (hv_len _) ?_)
      refine S.q rfl rfl (Qt.assign (by conv => lhs; whnf)) ?_
      refine S.nil ?_
      refine TC.seq ?_
      refine TC.region ?_
      refine S.q rfl rfl (Qt.load rfl (Ld.hash1 (x := H3s) (Has.at 2 rfl) Tryd.row23 Tryd.cells23)) ?_
      refine S.q rfl rfl (Qt.move (by conv => lhs; whnf)) ?_
      refine S.q rfl rfl (Qt.field Tryd.underlying88 rfl Tryd.cells71 rfl) ?_
      refine S.q rfl rfl (Qt.load rfl (Ld.one (Has.at 4 rfl) Tryd.one71 (rfl))) ?_
      refine S.q rfl rfl (Qt.field Tryd.underlying88 rfl Tryd.cells44 rfl) ?_
      refine S.q rfl rfl (Qt.load rfl (Ld.one (Has.at 4 rfl) Tryd.one44 (rfl))) ?_
      refine S.q rfl rfl (Qt.field Tryd.underlying88 rfl Tryd.cells44 rfl) ?_
      refine S.q rfl rfl (Qt.load rfl (Ld.one (Has.at 4 rfl) Tryd.one44 (rfl))) ?_
      refine S.q rfl rfl (Qt.indexB (i := 0) Tryd.underlying89 Tryd.cells44 rfl rfl (by omega)) ?_
      refine S.q rfl rfl (Qt.load rfl (Ld.one (v := .slice N ns.length n) (Has.at 3 rfl) Tryd.one44 rfl)) ?_
      refine S.opS rfl rfl (OpV.con0 Tryd.ent55 rfl (fun w hw => rwrite_R H3s z A c xs hc B b ls Z e bs N n ns hb hbs hns w hlow (Rd.ro hR w hw) (Rd.ro hB w hw) (Rd.ro hD w hw) (Rd.ro hN w hw) (hT2.at hw)) ?_)
      refine S.q rfl rfl (Qt.move (by conv => lhs; whnf)) ?_
      refine S.q rfl rfl (Qt.extract rfl rfl) ?_
      refine S.q rfl rfl (Qt.extract rfl rfl) ?_
      refine S.opS rfl rfl (OpV.alloc Tryd.zero23 (fun b13 => ?_))
      refine S.opN rfl (OpV.storeV0 (v := hv (_)) rfl rfl (hv_size Tryd.cells23) (hv_all _) (hv_len _) ?_)
      refine S.q rfl rfl (Qt.assign (by conv => lhs; whnf)) ?_
      refine S.nil ?_
      refine TC.seq ?_
      refine TC.region ?_
      refine S.q rfl rfl (Qt.load rfl (Ld.hash1 (x := (writeR H3s z xs ls bs ns).1) (Has.at 1 rfl) Tryd.row23 Tryd.cells23)) ?_
      refine S.q rfl rfl (Qt.load rfl (Ld.hash1 (x := (writeR H3s z xs ls bs ns).1) (Has.at 0 rfl) Tryd.row23 Tryd.cells23)) ?_
      refine S.q rfl rfl (Qt.dT (Qt.eqH (a := (writeR H3s z xs ls bs ns).1) (b := (writeR H3s z xs ls bs ns).1) Tryd.guard23 Tryd.underlying23 Tryd.underlying5 Tryd.cells5 rfl rfl) rfl) ?_
      refine S.q rfl rfl (Qt.move (by conv => lhs; whnf)) ?_
      refine S.qg rfl rfl rfl (Qt.move (by conv => lhs; whnf)) ?_
      refine S.opg rfl rfl rfl (OpV.con0 Tryd.ent24 rfl (fun w hw => num_R (writeR H3s z xs ls bs ns).2 w) ?_)
      refine S.qg rfl rfl rfl (Qt.move (by conv => lhs; whnf)) ?_
      refine S.qg rfl rfl rfl (Qt.dT (Qt.eq rfl rfl) (rfl)) ?_
      refine S.q rfl rfl (Qt.pick_t rfl (by conv => lhs; whnf)) ?_
      refine S.q rfl rfl (Qt.assign (by conv => lhs; whnf)) ?_
      refine S.nil ?_
      refine TC.ret ?_
      refine finQ.ret (RVs.tmp (by conv => lhs; whnf) RVs.nil) (Sub.nil _) ?_
      exact ⟨rfl, rfl⟩
theorem stepWrites_R (z : Int) (A : Option Addr) (c : Nat) (xs : List Nat) (hc : xs.length ≤ c) (B : Option Addr) (b : Nat) (ls : List H32) (Z : Option Addr) (e : Nat) (bs : List H32) (N : Option Addr) (n : Nat) (ns : List H32) (R : Option Addr) (r : Nat) (rs : List H32) (hb : ls.length ≤ b) (hbs : bs.length ≤ e) (hns : ns.length ≤ n) (w0 : World) (hlow : ∀ x ∈ xs, x < 18446744073709551616) (hR : Ro w0 [] (SlA A (u64s xs))) (hB : Ro w0 [] (SlA B (hcs ls))) (hD : Ro w0 [] (SlA Z (hcs bs))) (hN : Ro w0 [] (SlA N (hcs ns))) (hS : Ro w0 [] (SlA R (hcs rs))) (hT : Tabs 2 0 w0 []) (hT2 : Tabs 3 1 w0 []) : Calls Tryd.prog 9 #[.int .i64 z, .agg #[.slice A xs.length c, .slice B ls.length b, .slice Z bs.length e], .agg #[.slice N ns.length n, .slice R rs.length r]] w0 (Post w0 [] fun v L => v = .bool true ∧ L = []) := by
  have hEm : ∀ w, Tabs 2 0 w [] → Calls Tryd.prog 88 #[] w (Ret w (.agg (hcs (emptL emptyH)).toArray)) := fun w h => empties_R w h
  by_cases hlg : largeP xs.length ls.length bs.length
  · exact law9_walkE1 emptyH hEm emptyH_ne z A c xs hc B b ls Z e bs N n ns R r rs hlg w0 hT
  · by_cases h2 : 300 < ns.length
    · exact law9_walkE2 emptyH hEm emptyH_ne z A c xs hc B b ls Z e bs N n ns R r rs hlg h2 w0 hT
    · by_cases h3 : 1 < rs.length
      · exact law9_walkE3 emptyH hEm emptyH_ne z A c xs hc B b ls Z e bs N n ns R r rs hlg (by omega) h3 w0 hT
      · exact law9_walk emptyH hEm emptyH_ne z A c xs hc B b ls Z e bs N n ns R r rs hlg (by omega) (by omega) hb hbs hns w0 hlow hR hB hD hN hS hT hT2

end Go.Proofs.YtlneklemjfefpaaDoor
