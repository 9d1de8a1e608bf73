/-
  Walks: the document's climbing, its texts and its check; the law of roots. Printed by a program of ours. Walks: the document's texts and check; the law of roots. Printed by a program of ours.
-/
import Derived.Test.YtgdjcmehlhebdaaGreatDoorY5
import Derived.Test.YtgdjcmehlhebdaaGreatDoorQS
namespace Go.Proofs.YtgdjcmehlhebdaaGreatDoor
open Go.E
set_option linter.unusedVariables false
set_option maxRecDepth 4000
end Go.Proofs.YtgdjcmehlhebdaaGreatDoor
namespace Go.Proofs.YtgdjcmehlhebdaaGreatDoor
open Go.E
set_option linter.unusedVariables false
set_option maxRecDepth 4000
set_option maxHeartbeats 400000 in
theorem txt_walkE (z : Int) (k : Nat) (A : Option Addr) (c : Nat) (xs : List Nat) (B : Option Addr) (b : Nat) (ls : List H32) (Z : Option Addr) (e : Nat) (bs : List H32) (hce : ∀ w, Ro w [] (SlA A (u64s xs)) → Ro w [] (SlA B (hcs ls)) → Ro w [] (SlA Z (hcs bs)) → Calls Tryz.prog 188 #[.int .i64 z, .slice A xs.length c, .slice B ls.length b, .slice Z bs.length e] w (Ret w (.tuple #[hv zeroH, .slice none 0 0, .iface 73 (.int .i64 (k : Int))]))) (w0 : World) (hR : Ro w0 [] (SlA A (u64s xs))) (hB : Ro w0 [] (SlA B (hcs ls))) (hD : Ro w0 [] (SlA Z (hcs bs))) :
    Calls Tryz.prog 144 #[.int .i64 z, .slice A xs.length c, .slice B ls.length b, .slice Z bs.length e] w0 (Post w0 [] fun v L => v = .tuple #[.slice none 0 0, .iface 73 (.int .i64 (k : Int))] ∧ L = []) := by
  refine Calls.of (L := []) (n := 24) (rs := [.tmp 8, .tmp 9]) Tryz.func144 rfl rfl rfl (Nat.le_of_ble_eq_true rfl) (Sat.nil _) ?_
  refine TC.seq ?_
  refine TC.region ?_
  refine S.as ?_
  refine S.as ?_
  refine S.nil ?_
  refine TC.seq ?_
  refine TC.region ?_
  refine S.mv ?_
  refine S.mv ?_
  refine S.mv ?_
  refine S.mv ?_
  refine S.opS rfl rfl (OpV.con0 Tryz.ent188 rfl (fun w hw => hce w (Rd.ro hR w hw) (Rd.ro hB w hw) (Rd.ro hD w hw)) ?_)
  refine S.mv ?_
  refine S.q rfl rfl (Qt.extract rfl rfl) ?_
  refine S.q rfl rfl (Qt.extract rfl rfl) ?_
  refine S.q rfl rfl (Qt.extract rfl rfl) ?_
  refine S.opS rfl rfl (OpV.alloc Tryz.zero49 (fun b10 => ?_))
  refine S.opN rfl (OpV.storeV0 (v := hv (_)) rfl rfl (hv_size Tryz.cells49) (hv_all _) (hv_len _) ?_)
  refine S.as ?_
  refine S.as ?_
  refine S.nil ?_
  refine TC.seq ?_
  refine TC.region ?_
  refine S.mv ?_
  refine S.mv ?_
  refine S.as ?_
  refine S.as ?_
  refine S.nil ?_
  refine TC.ret ?_
  refine finQ.ret (RVs.tmp (by conv => lhs; whnf) (RVs.tmp (by conv => lhs; whnf) RVs.nil)) (Sub.nil _) ?_
  exact ⟨rfl, rfl⟩
set_option maxHeartbeats 400000 in
theorem txt_walk0 (height : Nat) (hh : height ≤ 32) (A : Option Addr) (c : Nat) (xs : List Nat) (hc : xs.length ≤ c) (B : Option Addr) (b : Nat) (ls : List H32) (Z : Option Addr) (e : Nat) (bs : List H32) (hi : idxOk height xs) (h2 : ls.length = xs.length) (h3 : bs.length = (spots height xs 0).length) (hb : ls.length ≤ b) (hbs : bs.length ≤ e) (w0 : World) (hlow : ∀ x ∈ xs, x < 18446744073709551616) (hR : Ro w0 [] (SlA A (u64s xs))) (hB : Ro w0 [] (SlA B (hcs ls))) (hD : Ro w0 [] (SlA Z (hcs bs))) (hT : Tabs 3 1 w0 []) :
    Calls Tryz.prog 144 #[.int .i64 (height : Int), .slice A xs.length c, .slice B ls.length b, .slice Z bs.length e] w0 (Post w0 [] fun v L => ∃ (O : Option Addr) (d : Nat) (tt : List Tx), v = .tuple #[.slice O tt.length d, .nilIface] ∧ L = [OwnA 112 1 O tt.length d (tt.flatMap txL), Many (tt.map txOwn)] ∧ tt.map (fun t => t.2.2) = climbT height xs 0 ls bs) := by
  refine Calls.of (L := []) (n := 24) (rs := [.tmp 8, .tmp 9]) Tryz.func144 rfl rfl rfl (Nat.le_of_ble_eq_true rfl) (Sat.nil _) ?_
  refine TC.seq ?_
  refine TC.region ?_
  refine S.as ?_
  refine S.as ?_
  refine S.nil ?_
  refine TC.seq ?_
  refine TC.region ?_
  refine S.mv ?_
  refine S.mv ?_
  refine S.mv ?_
  refine S.mv ?_
  refine S.opS rfl rfl (OpV.con (Pre := []) (R := _) Tryz.ent188 rfl (List.Perm.refl _) (fun w hw => come_walk0 height hh A c xs hc B b ls Z e bs hi h2 h3 hb hbs w hlow (Rd.ro hR w hw) (Rd.ro hB w hw) (Rd.ro hD w hw) (hT.at hw)) ?_)
  rintro v L' ⟨O, d, tt, rfl, rfl, ett⟩
  refine S.mv ?_
  refine S.q rfl rfl (Qt.extract rfl rfl) ?_
  refine S.q rfl rfl (Qt.extract rfl rfl) ?_
  refine S.q rfl rfl (Qt.extract rfl rfl) ?_
  refine S.opS rfl rfl (OpV.alloc Tryz.zero49 (fun b10 => ?_))
  refine S.opN rfl (OpV.storeV0 (v := hv (_)) rfl rfl (hv_size Tryz.cells49) (hv_all _) (hv_len _) ?_)
  refine S.as ?_
  refine S.as ?_
  refine S.nil ?_
  refine TC.seq ?_
  refine TC.region ?_
  refine S.mv ?_
  refine S.mv ?_
  refine S.as ?_
  refine S.as ?_
  refine S.nil ?_
  refine TC.ret ?_
  refine finQ.ret (RVs.tmp (by conv => lhs; whnf) (RVs.tmp (by conv => lhs; whnf) RVs.nil)) (Sub.trans (Sub.keep _ (Sub.keep _ (Sub.drop _ (Sub.nil [])))) (Sub.trans (Sub.keep _ (Sub.trans (Sub.keep _ (Sub.refl _)) (Sub.of_perm (List.perm_middle (l₁ := [_]))))) (Sub.of_perm (List.perm_middle (l₁ := [_]))))) ?_
  exact ⟨O, d, tt, rfl, rfl, ett⟩
end Go.Proofs.YtgdjcmehlhebdaaGreatDoor
