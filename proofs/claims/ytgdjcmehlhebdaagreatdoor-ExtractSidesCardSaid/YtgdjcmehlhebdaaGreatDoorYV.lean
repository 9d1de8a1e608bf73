/-
  Walks: a hash put before a row. Printed by a program of ours. Walks: a row joined by twos. Printed by a program of ours. Walks: the document's sides. Printed by a program of ours.
-/
import Derived.Test.YtgdjcmehlhebdaaGreatDoorYK
import Derived.Test.YtgdjcmehlhebdaaGreatDoorE3
import Derived.Test.YtgdjcmehlhebdaaGreatDoorP1
import Derived.Test.YtgdjcmehlhebdaaGreatDoorY9
import Derived.Test.YtgdjcmehlhebdaaGreatDoorYQ
import Derived.Test.YtgdjcmehlhebdaaGreatDoorYF
import Derived.Test.YtgdjcmehlhebdaaGreatDoorYZTA
import Derived.Test.YtgdjcmehlhebdaaGreatDoorY1
import Derived.Test.YtgdjcmehlhebdaaGreatDoorY2
import Derived.Test.YtgdjcmehlhebdaaGreatDoorYZs
import Derived.Test.YtgdjcmehlhebdaaGreatDoorYZTJ
import Derived.Test.YtgdjcmehlhebdaaGreatDoorY4
import Derived.Test.YtgdjcmehlhebdaaGreatDoorYZUD1
import Derived.Test.YtgdjcmehlhebdaaGreatDoorY5
import Derived.Test.YtgdjcmehlhebdaaGreatDoorY6
import Derived.Test.YtgdjcmehlhebdaaGreatDoorY7
import Derived.Test.YtgdjcmehlhebdaaGreatDoorY8
import Derived.Test.YtgdjcmehlhebdaaGreatDoorYZE
import Derived.Test.YtgdjcmehlhebdaaGreatDoorYZG
import Derived.Test.YtgdjcmehlhebdaaGreatDoorYZFX
namespace Go.Proofs.YtgdjcmehlhebdaaGreatDoor
open Go.E
set_option linter.unusedVariables false
set_option maxRecDepth 4000

theorem ins_cells (x : H32) (xs : List H32) (cs : List Value) : (hvl x ++ cs.drop 32).take 32 ++ hcs xs ++ (hvl x ++ cs.drop 32).drop (32 + (hcs xs).length) = hcs (x :: xs) ++ cs.drop ((xs.length + 1) * 32) := by
  rw [List.take_left' (hvl_length x), ← List.drop_drop, List.drop_left' (hvl_length x), List.drop_drop, hcs_length, hcs_cons, show 32 + xs.length * 32 = (xs.length + 1) * 32 by omega]
theorem ins_cells2 (x : H32) (xs : List H32) (cs r : List Value) (h : 32 ≤ cs.length) : (cs.take 32 ++ hcs xs ++ r).take 0 ++ hvl x ++ (cs.take 32 ++ hcs xs ++ r).drop (0 + (hvl x).length) = hcs (x :: xs) ++ r := by
  rw [List.take_zero, List.nil_append, Nat.zero_add, hvl_length, List.append_assoc (cs.take 32), List.drop_left' (by rw [List.length_take]; omega), hcs_cons, List.append_assoc]
theorem Has.front {C : Ctx} {L : List Assn} {b k : Nat} {T : TypeId} {cs ys : List Value} (h : Has C L (Blk b T cs)) (e : cs.take k = ys) : Has C L (SlA (some ⟨b, 0, none⟩) ys) := e ▸ Has.take (Has.blk h) k
theorem TL.shutOwn {C : Ctx} {Q : EQ} {env : Env} {ops : Array Oper} {l : List Oper} {L0 L : List Assn} {e : TypeId} {sz g n c : Nat} {cs : List Value} (hl : cs.length = c * sz) (hn : n ≤ c) (hm : c ≤ maxLen) (s : L0.Perm (Blk g e cs :: L)) (h : TL C ops Q l env (OwnA e sz (some ⟨g, 0, none⟩) n c (cs.take (n * sz)) :: L)) : TL C ops Q l env L0 :=
  fun a w ha hw => h a w ha ((hw.perm s).shutOwn hl hn hm)
set_option maxHeartbeats 800000 in
theorem ins_walkG (A : Option Addr) (c : Nat) (xs : List H32) (gv : Nat) (x : H32) (h0 : 0 < xs.length) (hm : xs.length ≤ 65536) (hg : c < xs.length + 1) (w0 : World) (hL : Sat w0 [OwnA 49 32 A xs.length c (hcs xs)]) (hV : Ro w0 (fps [OwnA 49 32 A xs.length c (hcs xs)]) (Blk gv 49 (hvl x))) :
    Calls Tryz.prog 65 #[.slice A xs.length c, .int .i64 ((0 : Nat) : Int), .slice (some ⟨gv, 0, none⟩) 1 1] w0 (Post w0 (fps [OwnA 49 32 A xs.length c (hcs xs)]) fun v L => ∃ O d, v = .slice O (xs.length + 1) d ∧ L = [OwnA 49 32 O (xs.length + 1) d (hcs (x :: xs))]) := by
  refine Calls.of (L := [OwnA 49 32 A xs.length c (hcs xs)]) (n := 95) (rs := [.tmp 6]) Tryz.func65 rfl rfl rfl (Nat.le_of_ble_eq_true rfl) (hL) ?_
  refine TC.openOwn (fun hA hz _ _ => absurd hz (by omega)) (fun g cs hO hct hcl hnc hcm => ?_)
  subst hO
  have hgv : gv ≠ g := fun e => by have q := hV.2 gv (List.mem_singleton.2 rfl); subst e; exact q.2 (by simp [fps, OwnA, Value.ownBlock])
  have hcx : (hcs xs).length = xs.length * 32 := hcs_length xs
  refine TC.seq ?_
  refine TC.region ?_
  refine S.as ?_
  refine S.nil ?_
  refine TC.seq ?_
  refine TC.region ?_
  refine S.mv ?_
  refine S.mv ?_
  refine S.q rfl rfl (Qt.slice_lo Tryz.underlying33 Tryz.cells49 rfl rfl (by omega)) ?_
  refine S.nil ?_
  refine TC.seq ?_
  refine TC.region ?_
  refine S.mv ?_
  refine S.q rfl rfl (Qt.len_slice Tryz.underlying33 rfl) ?_
  refine S.as ?_
  refine S.nil ?_
  refine TC.seq ?_
  refine TC.seq ?_
  refine TC.region ?_
  refine S.mv ?_
  refine S.q rfl rfl (Qt.dF (Qt.eq (b := 0) rfl rfl) (by decide)) ?_
  refine S.nil ?_
  refine S.if_f rfl ?_
  refine TC.skip ?_
  refine TC.seq ?_
  refine TC.region ?_
  refine S.mv ?_
  refine S.q rfl rfl (Qt.len_slice Tryz.underlying33 rfl) ?_
  refine S.as ?_
  refine S.nil ?_
  refine TC.seq ?_
  refine TC.seq ?_
  refine TC.region ?_
  refine S.mv ?_
  refine S.mv ?_
  refine S.q rfl rfl (Qt.dF (Qt.eq rfl rfl) (by omega)) ?_
  refine S.nil ?_
  refine S.if_f rfl ?_
  refine TC.skip ?_
  refine TC.seq ?_
  refine TC.seq ?_
  refine TC.region ?_
  refine S.mv ?_
  refine S.mv ?_
  refine S.q rfl rfl (Qt.add rfl rfl (by simp only [kmax]; omega)) ?_
  refine S.mv ?_
  refine S.q rfl rfl (Qt.capS Tryz.underlying33 rfl) ?_
  refine S.q rfl rfl (Qt.dT (Qt.gt rfl rfl) (by omega)) ?_
  refine S.nil ?_
  refine S.if_t rfl ?_
  refine TC.seq ?_
  refine TC.region ?_
  refine S.mv ?_
  refine S.mv ?_
  refine S.q rfl rfl (Qt.slice_hi Tryz.underlying33 Tryz.cells49 rfl rfl (by omega)) ?_
  refine S.mv ?_
  refine S.mv ?_
  refine S.q rfl rfl (Qt.add rfl rfl (by simp only [kmax]; omega)) ?_
  refine S.mv ?_
  refine S.q rfl rfl (Qt.as (Qt.sub (b := 0) rfl rfl (by omega) (by simp only [kmax]; omega)) (by rw [Nat.sub_zero])) ?_
  refine S.opS rfl rfl (OpV.appZ Tryz.underlying33 Tryz.underlying3 Tryz.elem49 rfl rfl (by omega) (by simp only [maxLen]; omega) (by omega) (fun n1 c1 cs1 hc1 hm1 hl1 => ?_))
  refine S.as ?_
  refine S.nil ?_
  refine TC.seq ?_
  refine TC.region ?_
  refine S.mv ?_
  refine S.mv ?_
  refine S.q rfl rfl (Qt.as (v' := .slice (some ⟨n1, 0, none⟩) (xs.length + 1) c1) (Qt.slice_lo (l := 0) Tryz.underlying33 Tryz.cells49 rfl rfl (by omega)) (by simp [Addr.add])) ?_
  refine S.mv ?_
  refine S.opS rfl rfl (OpV.copy0 (cs' := hvl x ++ cs1.drop 32) (news := hvl x) Tryz.underlying33 Tryz.cells49 rfl rfl (Has.blk (Has.ro hV)) (by rw [hvl_length, Nat.min_eq_left (by omega)]) (bytesL_one _) (by rw [hvl_length, hl1]; omega) (by rw [hvl_length]; simp) ?_)
  refine S.nil ?_
  refine TC.seq ?_
  refine S.draw ([8], []) Tryz.mixed (Sub.drop _ (Sub.keep _ (Sub.nil []))) ?_
  refine D.qY 0 rfl (Qt.move (by conv => lhs; whnf)) ?_
  refine D.qY 1 rfl (Qt.move (by conv => lhs; whnf)) ?_
  refine D.qY 2 rfl (Qt.move (by conv => lhs; whnf)) ?_
  refine D.qY 3 rfl (Qt.add rfl rfl (by simp only [kmax]; omega)) ?_
  refine D.qY 4 rfl (Qt.as (v' := .slice (some ⟨n1, 32, none⟩) xs.length (c1 - 1)) (Qt.slice_lo (l := 0 + 1) Tryz.underlying33 Tryz.cells49 rfl rfl (by omega)) (by rw [if_neg (by omega)]; simp [Addr.add])) ?_
  refine D.qY 5 rfl (Qt.move (by conv => lhs; whnf)) ?_
  refine D.qY 6 rfl (Qt.move (by conv => lhs; whnf)) ?_
  refine D.qY 7 rfl (Qt.as (v' := .slice (some ⟨g, 0, none⟩) xs.length c) (Qt.slice_lo (l := 0) Tryz.underlying33 Tryz.cells49 rfl rfl (by omega)) (by simp [Addr.add])) ?_
  refine D.opS (k := 8) (Sub.drop _ (Sub.keep _ (Sub.nil []))) rfl (by kernel_rfl) (by kernel_rfl) rfl rfl (OpV.copy0 (cs' := hcs (x :: xs) ++ cs1.drop ((xs.length + 1) * 32)) (news := hcs xs) Tryz.underlying33 Tryz.cells49 rfl rfl (Has.front (Has.at 1 rfl) hct) (by rw [hcx, Nat.min_self]) (hcs_one _) (by rw [hcx, List.length_append, hvl_length, List.length_drop, hl1]; omega) (ins_cells x xs cs1) ⟨Sub.drop _ (Sub.keep _ (Sub.nil [])), ?_⟩)
  refine D.done (Sub.drop _ (Sub.keep _ (Sub.nil []))) (by kernel_rfl) ?_
  refine TC.seq ?_
  refine TC.region ?_
  refine TL.shutOwn (n := xs.length + 1) (sz := 32) (by rw [List.length_append, hcs_length, List.length_drop, hl1, List.length_cons]; omega) (hc1) (hm1) (List.Perm.refl _) ?_
  rw [List.take_left' (by rw [hcs_length, List.length_cons])]
  refine S.mv ?_
  refine S.as ?_
  refine S.nil ?_
  refine TC.ret ?_
  refine finQ.ret (RVs.tmp (by conv => lhs; whnf) RVs.nil) (Sub.keep _ (Sub.drop _ (Sub.nil []))) ?_
  exact ⟨some ⟨n1, 0, none⟩, c1, rfl, rfl⟩
set_option maxHeartbeats 800000 in
theorem ins_walkR (A : Option Addr) (c : Nat) (xs : List H32) (gv : Nat) (x : H32) (h0 : 0 < xs.length) (hm : xs.length ≤ 65536) (hg : xs.length + 1 ≤ c) (w0 : World) (hL : Sat w0 [OwnA 49 32 A xs.length c (hcs xs)]) (hV : Ro w0 (fps [OwnA 49 32 A xs.length c (hcs xs)]) (Blk gv 49 (hvl x))) :
    Calls Tryz.prog 65 #[.slice A xs.length c, .int .i64 ((0 : Nat) : Int), .slice (some ⟨gv, 0, none⟩) 1 1] w0 (Post w0 (fps [OwnA 49 32 A xs.length c (hcs xs)]) fun v L => ∃ O d, v = .slice O (xs.length + 1) d ∧ L = [OwnA 49 32 O (xs.length + 1) d (hcs (x :: xs))]) := by
  refine Calls.of (L := [OwnA 49 32 A xs.length c (hcs xs)]) (n := 95) (rs := [.tmp 6]) Tryz.func65 rfl rfl rfl (Nat.le_of_ble_eq_true rfl) (hL) ?_
  refine TC.openOwn (fun hA hz _ _ => absurd hz (by omega)) (fun g cs hO hct hcl hnc hcm => ?_)
  subst hO
  have hgv : gv ≠ g := fun e => by have q := hV.2 gv (List.mem_singleton.2 rfl); subst e; exact q.2 (by simp [fps, OwnA, Value.ownBlock])
  have hcx : (hcs xs).length = xs.length * 32 := hcs_length xs
  refine TC.seq ?_
  refine TC.region ?_
  refine S.as ?_
  refine S.nil ?_
  refine TC.seq ?_
  refine TC.region ?_
  refine S.mv ?_
  refine S.mv ?_
  refine S.q rfl rfl (Qt.slice_lo Tryz.underlying33 Tryz.cells49 rfl rfl (by omega)) ?_
  refine S.nil ?_
  refine TC.seq ?_
  refine TC.region ?_
  refine S.mv ?_
  refine S.q rfl rfl (Qt.len_slice Tryz.underlying33 rfl) ?_
  refine S.as ?_
  refine S.nil ?_
  refine TC.seq ?_
  refine TC.seq ?_
  refine TC.region ?_
  refine S.mv ?_
  refine S.q rfl rfl (Qt.dF (Qt.eq (b := 0) rfl rfl) (by decide)) ?_
  refine S.nil ?_
  refine S.if_f rfl ?_
  refine TC.skip ?_
  refine TC.seq ?_
  refine TC.region ?_
  refine S.mv ?_
  refine S.q rfl rfl (Qt.len_slice Tryz.underlying33 rfl) ?_
  refine S.as ?_
  refine S.nil ?_
  refine TC.seq ?_
  refine TC.seq ?_
  refine TC.region ?_
  refine S.mv ?_
  refine S.mv ?_
  refine S.q rfl rfl (Qt.dF (Qt.eq rfl rfl) (by omega)) ?_
  refine S.nil ?_
  refine S.if_f rfl ?_
  refine TC.skip ?_
  refine TC.seq ?_
  refine TC.seq ?_
  refine TC.region ?_
  refine S.mv ?_
  refine S.mv ?_
  refine S.q rfl rfl (Qt.add rfl rfl (by simp only [kmax]; omega)) ?_
  refine S.mv ?_
  refine S.q rfl rfl (Qt.capS Tryz.underlying33 rfl) ?_
  refine S.q rfl rfl (Qt.dF (Qt.gt rfl rfl) (by omega)) ?_
  refine S.nil ?_
  refine S.if_f rfl ?_
  refine TC.skip ?_
  refine TC.seq ?_
  refine TC.region ?_
  refine S.mv ?_
  refine S.mv ?_
  refine S.mv ?_
  refine S.q rfl rfl (Qt.add rfl rfl (by simp only [kmax]; omega)) ?_
  refine S.q rfl rfl (Qt.slice_hi Tryz.underlying33 Tryz.cells49 rfl rfl (by omega)) ?_
  refine S.as ?_
  refine S.nil ?_
  refine TC.seq ?_
  refine TC.seq ?_
  refine TC.region ?_
  refine S.mv ?_
  refine S.mv ?_
  refine S.mv ?_
  refine S.mv ?_
  refine S.q rfl rfl (Qt.add rfl rfl (by simp only [kmax]; omega)) ?_
  refine S.q rfl rfl (Qt.as (v' := .slice (some ⟨g, 32, none⟩) xs.length (c - 1)) (Qt.slice_lo (l := 0 + 1) Tryz.underlying33 Tryz.cells49 rfl rfl (by omega)) (by rw [if_neg (by omega)]; simp [Addr.add])) ?_
  refine S.q rfl rfl (Qt.overlaps (T := 33) (e := 49) (TR := 4) Tryz.func130 (by kernel_rfl) (by kernel_rfl) (by kernel_rfl) (by kernel_rfl) Tryz.underlying33 Tryz.cells49 rfl rfl rfl (Has.ro hV) (Has.at 0 rfl) hgv (by rw [hcl]; omega)) ?_
  refine S.q rfl rfl (Qt.not_f rfl) ?_
  refine S.nil ?_
  refine S.if_t rfl ?_
  refine TC.seq ?_
  refine S.draw ([8], []) Tryz.mixed (Sub.nil _) ?_
  refine D.qY 0 rfl (Qt.move (by conv => lhs; whnf)) ?_
  refine D.qY 1 rfl (Qt.move (by conv => lhs; whnf)) ?_
  refine D.qY 2 rfl (Qt.move (by conv => lhs; whnf)) ?_
  refine D.qY 3 rfl (Qt.add rfl rfl (by simp only [kmax]; omega)) ?_
  refine D.qY 4 rfl (Qt.as (v' := .slice (some ⟨g, 32, none⟩) xs.length (c - 1)) (Qt.slice_lo (l := 0 + 1) Tryz.underlying33 Tryz.cells49 rfl rfl (by omega)) (by rw [if_neg (by omega)]; simp [Addr.add])) ?_
  refine D.qY 5 rfl (Qt.move (by conv => lhs; whnf)) ?_
  refine D.qY 6 rfl (Qt.move (by conv => lhs; whnf)) ?_
  refine D.qY 7 rfl (Qt.as (v' := .slice (some ⟨g, 0, none⟩) (xs.length + 1) c) (Qt.slice_lo (l := 0) Tryz.underlying33 Tryz.cells49 rfl rfl (by omega)) (by simp [Addr.add])) ?_
  refine D.opS (k := 8) (Sub.nil _) rfl (by kernel_rfl) (by kernel_rfl) rfl rfl (OpV.copy0 (cs' := cs.take 32 ++ hcs xs ++ cs.drop (32 + (hcs xs).length)) (news := hcs xs) Tryz.underlying33 Tryz.cells49 rfl rfl (Has.front (Has.at 0 rfl) hct) (by rw [hcx, Nat.min_eq_right (by omega)]) (hcs_one _) (by rw [hcx, hcl]; omega) (rfl) ⟨Sub.nil _, ?_⟩)
  refine D.done (Sub.nil _) (by kernel_rfl) ?_
  refine TC.seq ?_
  refine TC.region ?_
  refine S.mv ?_
  refine S.mv ?_
  refine S.q rfl rfl (Qt.as (v' := .slice (some ⟨g, 0, none⟩) (xs.length + 1) c) (Qt.slice_lo (l := 0) Tryz.underlying33 Tryz.cells49 rfl rfl (by omega)) (by simp [Addr.add])) ?_
  refine S.mv ?_
  refine S.opS rfl rfl (OpV.copy0 (cs' := hcs (x :: xs) ++ cs.drop (32 + (hcs xs).length)) (news := hvl x) Tryz.underlying33 Tryz.cells49 rfl rfl (Has.blk (Has.ro hV)) (by rw [hvl_length, Nat.min_eq_left (by omega)]) (bytesL_one _) (by rw [hvl_length, List.length_append, List.length_append, List.length_take, hcx, hcl]; omega) (ins_cells2 x xs cs _ (by rw [hcl]; omega)) ?_)
  refine S.nil ?_
  refine TC.seq ?_
  refine TC.region ?_
  refine TL.shutOwn (n := xs.length + 1) (sz := 32) (by rw [List.length_append, hcs_length, List.length_drop, hcx, hcl, List.length_cons]; omega) (hg) (hcm) (List.Perm.refl _) ?_
  rw [List.take_left' (by rw [hcs_length, List.length_cons])]
  refine S.mv ?_
  refine S.as ?_
  refine S.nil ?_
  refine TC.ret ?_
  refine finQ.ret (RVs.tmp (by conv => lhs; whnf) RVs.nil) (Sub.refl _) ?_
  exact ⟨some ⟨g, 0, none⟩, c, rfl, rfl⟩
theorem insert_walk (A : Option Addr) (c : Nat) (xs : List H32) (gv : Nat) (x : H32) (h0 : 0 < xs.length) (hm : xs.length ≤ 65536)  (w0 : World) (hL : Sat w0 [OwnA 49 32 A xs.length c (hcs xs)]) (hV : Ro w0 (fps [OwnA 49 32 A xs.length c (hcs xs)]) (Blk gv 49 (hvl x))) : Calls Tryz.prog 65 #[.slice A xs.length c, .int .i64 ((0 : Nat) : Int), .slice (some ⟨gv, 0, none⟩) 1 1] w0 (Post w0 (fps [OwnA 49 32 A xs.length c (hcs xs)]) fun v L => ∃ O d, v = .slice O (xs.length + 1) d ∧ L = [OwnA 49 32 O (xs.length + 1) d (hcs (x :: xs))]) := by
  rcases Nat.lt_or_ge c (xs.length + 1) with h | h
  · exact ins_walkG A c xs gv x h0 hm h w0 hL hV
  · exact ins_walkR A c xs gv x h0 hm h w0 hL hV

end Go.Proofs.YtgdjcmehlhebdaaGreatDoor
namespace Go.Proofs.YtgdjcmehlhebdaaGreatDoor
open Go.E
set_option linter.unusedVariables false
set_option maxRecDepth 4000
def pairF (lv : Nat) (xs : List H32) (i : Nat) : H32 := joinH lv (xs.getD (2 * i) zeroH) (xs.getD (2 * i + 1) zeroH)
theorem Ro.part {w : World} {M : List Nat} {A : Option Addr} {cs : List Value} (h : Ro w M (SlA A cs)) (k n : Nat) : Ro w M (SlA (A.map (·.add k)) ((cs.drop k).take n)) := by
  have h1 := h.cut (c := 0) (l := 1) (k := k) (fun e => by cases e)
  rw [if_neg (by decide)] at h1
  exact h1.take n
theorem pair_part {xs : List H32} {m i : Nat} (hm : xs.length = 2 * m) (hi : i < m) : ((hcs xs).drop (2 * i * 32)).take 64 = hcs [xs.getD (2 * i) zeroH, xs.getD (2 * i + 1) zeroH] := by
  rw [hcs_drop, show (64 : Nat) = 2 * 32 from rfl, hcs_take]
  congr 1
  have h1 : 2 * i < xs.length := by omega
  have h2 : 2 * i + 1 < xs.length := by omega
  rw [List.drop_eq_getElem_cons h1, List.drop_eq_getElem_cons h2]
  rw [show xs.getD (2 * i) zeroH = xs[2 * i] by simp [List.getD, h1], show xs.getD (2 * i + 1) zeroH = xs[2 * i + 1] by simp [List.getD, h2]]
  rfl
set_option maxHeartbeats 400000 in
theorem chunkh_walk (A : Option Addr) (N c n : Nat) (hn : 1 ≤ n) (w0 : World) :
    Calls Tryz.prog 132 #[.slice A N c, .int .i64 (n : Int)] w0 (Post w0 [] fun v L => ∃ b2 b3, v = .func (.func 186) #[] #[.pointer (some ⟨b2, 0, none⟩), .pointer (some ⟨b3, 0, none⟩)] ∧ L = [Blk b3 3 [.int .i64 (n : Int)], Blk b2 33 [.slice A N c]]) := by
  refine Calls.of (L := []) (n := 9) (rs := [.tmp 4]) Tryz.func132 rfl rfl rfl (Nat.le_of_ble_eq_true rfl) (Sat.nil _) ?_
  refine TC.seq ?_
  refine TC.region ?_
  refine S.opS rfl rfl (OpV.box (by conv => lhs; whnf) (fun b2 => ?_))
  refine S.opS rfl rfl (OpV.box (by conv => lhs; whnf) (fun b3 => ?_))
  refine S.as ?_
  refine S.nil ?_
  refine TC.seq ?_
  refine TC.seq ?_
  refine TC.region ?_
  refine S.q rfl rfl (Qt.load rfl (Ld.one (Has.at 0 rfl) Tryz.one3 (rfl))) ?_
  refine S.q rfl rfl (Qt.dF (Qt.lt (b := 1) rfl rfl) (by omega)) ?_
  refine S.nil ?_
  refine S.if_f rfl ?_
  refine TC.skip ?_
  refine TC.seq ?_
  refine TC.region ?_
  refine S.q rfl rfl (Qt.makeFuncL (fs := []) (cs := [.pointer (some ⟨b2, 0, none⟩), .pointer (some ⟨b3, 0, none⟩)]) rfl rfl) ?_
  refine S.as ?_
  refine S.nil ?_
  refine TC.ret ?_
  refine finQ.ret (RVs.tmp (by conv => lhs; whnf) RVs.nil) (Sub.refl _) ?_
  exact ⟨_, _, rfl, rfl⟩
set_option maxHeartbeats 400000 in
theorem chunkh1_walk (A : Option Addr) (m c n : Nat) (hn : 1 ≤ n) (hc : n * m ≤ c) (hc2 : c ≤ 9223372036854775807) (b2 b3 l : Nat) (J : Bool → List (Fin m) → List Assn → Prop) (w0 : World) (L0 : List Assn) (h0 : Sat w0 L0) (hJ : J true [] L0) (hB2 : Ro w0 (fps L0) (Blk b2 33 [.slice A (n * m) c])) (hB3 : Ro w0 (fps L0) (Blk b3 3 [.int .i64 (n : Int)]))
    (hY : ∀ pre x w' L', (fun ys : List (Fin m) => ∃ j, j ≤ m ∧ ys = (List.finRange m).take j) (pre ++ [x]) → J true pre L' → St w0 (fps L0) L' w' → YieldAt Fence.wide 0 Tryz.prog l ((fun i : Fin m => [.slice (A.map (·.add (n * i.val * 32))) n n]) x).toArray w' fun e w'' => ∃ L'', St w' (fps L') L'' w'' ∧ ((e = .returned (.bool true) ∧ J true (pre ++ [x]) L'') ∨ (e = .returned (.bool false) ∧ J false (pre ++ [x]) L''))) :
    Calls Tryz.prog 186 #[.func (.yield l) #[] #[], .pointer (some ⟨b2, 0, none⟩), .pointer (some ⟨b3, 0, none⟩)] w0 (Post w0 (fps L0) fun v L => (∃ xs, xs = List.finRange m ∧ J true xs L) ∨ (∃ pre, True ∧ J false pre L)) := by
  refine Calls.of (L := L0) (n := 31) (rs := []) Tryz.func186 rfl rfl rfl (Nat.le_of_ble_eq_true rfl) (h0) ?_
  refine TC.seq ?_
  refine TC.region ?_
  refine S.as ?_
  refine S.nil ?_
  refine TC.block ?_
  refine TC.loop (γ := Nat × List Assn) [6, 7, 8, 9, 13, 14, 15, 16, 17, 18, 5, 19, 20, 21, 22, 23, 24, 25, 26, 27, 28, 29, 30, 10, 11, 12, 4] (fun g => [(4, .int .i64 ((n * g.1 : Nat) : Int))]) (fun g => g.2) (fun g => g.1 ≤ m ∧ J true ((List.finRange m).take g.1) g.2) (fun g => m - g.1) ((0, L0))
    ⟨Nat.zero_le _, hJ⟩ ⟨Out.refl _ _, (List.forall_mem_cons.2 ⟨rfl, (fun _ h => nomatch h)⟩)⟩ (Sub.refl _) ?_
  rintro ⟨k, Z⟩ u ⟨hk, hj⟩
  dsimp only at hk hj
  refine TC.seq ?_
  refine TC.seq ?_
  refine TC.region ?_
  refine S.mv ?_
  refine S.q rfl rfl (Qt.load rfl (Ld.one (Has.ro hB2) Tryz.one33 (rfl))) ?_
  refine S.q rfl rfl (Qt.len_slice Tryz.underlying33 rfl) ?_
  refine S.dec rfl rfl (Qt.lt rfl rfl) (fun h9 => ?_) (fun h9 => ?_)
  · refine S.nil ?_
    refine S.if_t rfl ?_
    refine TC.skip ?_
    refine TC.seq ?_
    refine TC.block ?_
    refine TC.seq ?_
    refine S.draw ([], []) Tryz.mixed (Sub.nil _) ?_
    have hkm : k < m := Nat.lt_of_mul_lt_mul_left (a := n) h9
    have hkn : n * k + n ≤ n * m := by rw [← Nat.mul_succ]; exact Nat.mul_le_mul_left _ hkm
    have hkn2 : n * (k, Z).fst + n ≤ n * m := hkn
    refine D.qY 0 rfl (Qt.load rfl (Ld.one (Has.ro hB3) Tryz.one3 (rfl))) ?_
    refine D.qY 1 rfl (Qt.load rfl (Ld.one (Has.ro hB2) Tryz.one33 (rfl))) ?_
    refine D.qY 2 rfl (Qt.move (by conv => lhs; whnf)) ?_
    refine D.qY 3 rfl (Qt.slice_lo Tryz.underlying33 Tryz.cells49 rfl rfl (by omega)) ?_
    refine D.qY 4 rfl (Qt.len_slice Tryz.underlying33 rfl) ?_
    refine D.qY 5 rfl (Qt.as (Qt.minN rfl rfl) (by rw [Nat.min_eq_left (show n ≤ n * m - n * k by omega)])) ?_
    refine D.qY 6 rfl (Qt.assign (by conv => lhs; whnf)) ?_
    refine D.done (Sub.nil _) (by kernel_rfl) ?_
    refine TC.seq ?_
    refine TC.region ?_
    refine S.mv ?_
    refine S.q rfl rfl (Qt.load rfl (Ld.one (Has.ro hB2) Tryz.one33 (rfl))) ?_
    refine S.mv ?_
    refine S.mv ?_
    refine S.mv ?_
    refine S.q rfl rfl (Qt.add rfl rfl (by simp only [kmax]; omega)) ?_
    refine S.mv ?_
    refine S.mv ?_
    refine S.q rfl rfl (Qt.add rfl rfl (by simp only [kmax]; omega)) ?_
    refine S.q rfl rfl (Qt.as (v' := .slice (A.map (·.add (n * k * 32))) n n) (Qt.slice3 Tryz.underlying33 Tryz.cells49 rfl rfl rfl rfl (by omega) (by omega) (by omega)) (by rw [if_neg (by omega), show n * k + n - n * k = n by omega])) ?_
    refine S.opS rfl rfl (OpV.yield2 (L1 := []) (enc := (fun i : Fin m => [.slice (A.map (·.add (n * i.val * 32))) n n])) ⟨k, hkm⟩ (fun w' L' => hY _ _ w' L' ⟨k + 1, hkm, (finRange_take hkm).symm⟩) rfl rfl hj (fun Z2 hj2 => ?_) (fun Z2 hj2 => ?_))
    · rw [← finRange_take hkm] at hj2
      refine S.q rfl rfl (Qt.not_t rfl) ?_
      refine S.nil ?_
      refine S.if_f rfl ?_
      refine TC.skip ?_
      refine TC.region ?_
      refine S.mv ?_
      refine S.q rfl rfl (Qt.load rfl (Ld.one (Has.ro hB3) Tryz.one3 (rfl))) ?_
      refine S.q rfl rfl (Qt.add rfl rfl (by simp only [kmax]; omega)) ?_
      refine S.as ?_
      refine S.nil ?_
      refine ⟨(k + 1, Z2), ?_, ?_, ⟨?_, (List.forall_mem_cons.2 ⟨rfl, (fun _ h => nomatch h)⟩)⟩, Sub.refl _⟩
      · exact ⟨by show _ ≤ _; dsimp only; omega, hj2⟩
      · show _ < _; dsimp only; omega
      repeat (first | exact Out.refl _ _ | refine Out.put rfl ?_ | refine Out.puts rfl ?_ | refine Out.scr ?_ | refine Out.scr' rfl ?_)
    · refine S.q rfl rfl (Qt.not_f rfl) ?_
      refine S.nil ?_
      refine S.if_t rfl ?_
      refine TC.ret ?_
      refine finQ.ret RVs.nil (Sub.refl _) ?_
      exact .inr ⟨_, trivial, hj2⟩
  · refine S.nil ?_
    refine S.if_f rfl ?_
    refine TC.exit ?_
    refine finQ.normal RVs.nil (Sub.refl _) ?_
    have hkm : m ≤ k := Nat.le_of_mul_le_mul_left (Nat.le_of_not_lt h9) hn
    obtain rfl : k = m := by omega
    rw [finRange_all] at hj
    exact .inl ⟨_, rfl, hj⟩
theorem chunkh_gen (A : Option Addr) (m c n : Nat) (hn : 1 ≤ n) (hc : n * m ≤ c) (hc2 : c ≤ 9223372036854775807) (b2 b3 : Nat) (w : World) (L0 : List Assn) (h0 : Sat w L0) (hB2 : Ro w (fps L0) (Blk b2 33 [.slice A (n * m) c])) (hB3 : Ro w (fps L0) (Blk b3 3 [.int .i64 (n : Int)])) :
    Gen2 Tryz.prog 186 #[.pointer (some ⟨b2, 0, none⟩), .pointer (some ⟨b3, 0, none⟩)] (fun i : Fin m => [.slice (A.map (·.add (n * i.val * 32))) n n]) (fun xs => xs = List.finRange m) (fun _ => True) (fun ys : List (Fin m) => ∃ j, j ≤ m ∧ ys = (List.finRange m).take j) w L0 := fun l J hJ hY =>
  chunkh1_walk A m c n hn hc hc2 b2 b3 l J w L0 h0 hJ hB2 hB3 hY

set_option maxHeartbeats 1600000 in
theorem joined_walk (lv : Nat) (h1 : 1 ≤ lv) (h2 : lv ≤ 32) (A : Option Addr) (m c : Nat) (xs : List H32) (hm : xs.length = 2 * m) (hc : 2 * m ≤ c) (hcm : c ≤ 9223372036854775807) (hb : m ≤ 65536) (w0 : World) (hR : Ro w0 [] (SlA A (hcs xs))) (hT : Tabs 3 1 w0 []) :
    Calls Tryz.prog 66 #[.int .i64 (lv : Int), .slice A (2 * m) c] w0 (Post w0 [] fun v L => ∃ O d, v = .tuple #[.slice O m d, .nilIface] ∧ L = [OwnA 49 32 O m d (hcs ((List.finRange m).map (fun i : Fin m => pairF lv xs i.val)))]) := by
  refine Calls.of (L := []) (n := 32) (rs := [.cell 4 33, .cell 5 51]) Tryz.func66 rfl rfl rfl (Nat.le_of_ble_eq_true rfl) (Sat.nil _) ?_
  refine TC.ownNil 49 32 ?_
  refine TC.seq ?_
  refine TC.region ?_
  refine S.opS rfl rfl (OpV.box (v := .int .i64 (lv : Int)) rfl (fun b2 => ?_))
  refine S.opS rfl rfl (OpV.alloc Tryz.zero33 (fun b4 => ?_))
  refine S.opS rfl rfl (OpV.alloc Tryz.zero51 (fun b5 => ?_))
  refine S.nil ?_
  refine TC.seq ?_
  refine TC.region ?_
  refine S.opS rfl rfl (OpV.alloc Tryz.zero33 (fun b6 => ?_))
  refine S.nil ?_
  refine TC.seq ?_
  refine TC.seq ?_
  refine TC.region ?_
  refine S.mv ?_
  refine S.opS rfl rfl (OpV.con (Pre := []) (R := _) Tryz.ent132 rfl (List.Perm.refl _) (fun w hw => chunkh_walk A (2 * m) c 2 (by decide) w) ?_)
  rintro v L' ⟨c2, c3, rfl, rfl⟩
  refine S.nil ?_
  refine TC.block ?_
  refine TC.rangeFunc2 (α := Fin m) (fun i : Fin m => [Value.slice (A.map (·.add (2 * i.val * 32))) 2 2]) (fun ys => ys = List.finRange m) (fun _ => True) (fun ys : List (Fin m) => ∃ j, j ≤ m ∧ ys = (List.finRange m).take j) (fun pre L' => ∃ O d, L' = [Blk b6 33 [.slice O pre.length d], OwnA 49 32 O pre.length d (hcs (pre.map (fun i : Fin m => pairF lv xs i.val)))]) (fun _ _ _ => False) (L0 := [Blk b6 33 [.slice none ([] : List (Fin m)).length 0], OwnA 49 32 none ([] : List (Fin m)).length 0 (hcs (([] : List (Fin m)).map (fun i : Fin m => pairF lv xs i.val)))]) rfl rfl Tryz.ent186 rfl (fun _ => rfl) ((List.perm_middle (l₁ := [_, _])).trans (List.Perm.cons _ (List.perm_middle (l₁ := [_, _, _, _, _])))) ⟨none, 0, rfl⟩ (fun w L' hw => chunkh_gen A m c 2 (by decide) hc hcm c2 c3 w L' hw.sat.left (Ro.of_rest hw (.tail _ (.head _))) (Ro.of_rest hw (.head _))) ?_ ?_ (fun _ _ _ _ _ h => h.elim)
  · rintro w' l Dd Rr Rb pre x L' hPf ⟨O, d, rfl⟩ hst
    have hpl : pre.length + 1 ≤ m := by obtain ⟨j, hj, e⟩ := hPf; have q := congrArg List.length e; rw [len_snoc, List.length_take, List.length_finRange] at q; omega
    have hP : Ro w' (fps (Rr :: dfA Dd :: [Blk b6 33 [.slice O pre.length d], OwnA 49 32 O pre.length d (hcs (pre.map (fun i : Fin m => pairF lv xs i.val)))])) (SlA (A.map (·.add (2 * x.val * 32))) (hcs [xs.getD (2 * x.val) zeroH, xs.getD (2 * x.val + 1) zeroH])) := by
      rw [← pair_part hm x.isLt]; exact (Ro.of_pre hst hR).part _ _
    have hLv : Ro w' (fps (Rr :: dfA Dd :: [Blk b6 33 [.slice O pre.length d], OwnA 49 32 O pre.length d (hcs (pre.map (fun i : Fin m => pairF lv xs i.val)))])) (Blk b2 3 [.int .i64 (lv : Int)]) := Ro.of_rest hst (List.mem_of_getElem? (i := 4) rfl)
    have hT2 := Tabs.pre hT hst
    refine TC.region ?_
    refine S.as ?_
    refine S.nil ?_
    refine ⟨_, Sub.refl _, ?_⟩
    refine TC.block ?_
    refine TC.seq ?_
    refine S.draw ([12], [11]) Tryz.mixed (Sub.nil _) ?_
    refine D.qY 0 rfl (Qt.load rfl (Ld.one (v := .int .i64 (lv : Int)) (Has.ro hLv) Tryz.one3 rfl)) ?_
    refine D.qY 1 rfl (Qt.move (by conv => lhs; whnf)) ?_
    refine D.qY 2 rfl (Qt.index (i := 0) Tryz.underlying33 Tryz.cells49 rfl rfl (by decide) (Has.ro hP) (by rw [hcs_length]; show 0 * 32 < 2 * 32; decide)) ?_
    refine D.qY 3 rfl (Qt.load rfl (Ld.hashS (l := [xs.getD (2 * x.val) zeroH, xs.getD (2 * x.val + 1) zeroH]) (Has.ro hP) 0 Tryz.row49 Tryz.cells49 (show 0 < 2 by decide) rfl)) ?_
    refine D.qY 4 rfl (Qt.move (by conv => lhs; whnf)) ?_
    refine D.qY 5 rfl (Qt.index (i := 1) Tryz.underlying33 Tryz.cells49 rfl rfl (by decide) (Has.ro hP) (by rw [hcs_length]; show 1 * 32 < 2 * 32; decide)) ?_
    refine D.qY 6 rfl (Qt.load rfl (Ld.hashS (l := [xs.getD (2 * x.val) zeroH, xs.getD (2 * x.val + 1) zeroH]) (Has.ro hP) 1 Tryz.row49 Tryz.cells49 (show 1 < 2 by decide) rfl)) ?_
    refine D.cX (k := 7) rfl (by kernel_rfl) (by kernel_rfl) (by kernel_rfl) rfl rfl (CalU.con0 Tryz.ent117 rfl (fun w hw => join_R lv h1 h2 (xs.getD (2 * x.val) zeroH) (xs.getD (2 * x.val + 1) zeroH) w (hT2.at hw))) ?_
    refine D.qY 8 rfl (Qt.move (by conv => lhs; whnf)) ?_
    refine D.qY 9 rfl (Qt.extract rfl rfl) ?_
    refine D.q (k := 10) rfl (by kernel_rfl) (by kernel_rfl) rfl rfl (Qt.extract rfl rfl) ?_
    refine D.nS (k := 11) (Sub.nil _) rfl (by kernel_rfl) (by kernel_rfl) rfl rfl (OpV.alloc Tryz.zero49 (fun b8 => ⟨Sub.drop _ (Sub.refl _), ?_⟩))
    refine D.opN (k := 12) (Sub.nil _) rfl (by kernel_rfl) (by kernel_rfl) rfl (OpV.storeV0 (v := hv (pairF lv xs x.val)) rfl rfl (hv_size Tryz.cells49) (hv_all _) (hv_len _) ⟨Sub.nil _, ?_⟩)
    refine D.qY 13 rfl (Qt.assign (by conv => lhs; whnf)) ?_
    refine D.done (Sub.nil _) (by kernel_rfl) ?_
    refine TC.seq ?_
    refine TC.seq ?_
    refine TC.region ?_
    refine S.mv ?_
    refine S.q rfl rfl (Qt.nenil_nil Tryz.underlying51 rfl) ?_
    refine S.nil ?_
    refine S.if_f rfl ?_
    refine TC.skip ?_
    refine TC.region ?_
    refine S.q rfl rfl (Qt.load rfl (Ld.one (v := .slice O pre.length d) (Has.at 3 rfl) Tryz.one33 rfl)) ?_
    refine S.q rfl rfl (Qt.load rfl (Ld.hash1 (x := pairF lv xs x.val) (Has.at 0 rfl) Tryz.row49 Tryz.cells49)) ?_
    refine S.opS rfl rfl (OpV.slice1 (bytes := 32) (v := hv (pairF lv xs x.val)) Tryz.underlying33 Tryz.elem49 (by decide) rfl (hv_len _) (fun g29 => ?_))
    refine S.opS rfl rfl (OpV.app5 (bytes := 32) (news := hvl (pairF lv xs x.val)) Tryz.underlying33 Tryz.elem49 rfl rfl (Has.blk (cs := hvl (pairF lv xs x.val)) (Has.at 0 rfl)) (by rw [hvl_length]) (bytesL_one _) (by simp only [maxLen]; omega) (by omega) (fun O' d' => ?_))
    refine S.opN rfl (OpV.storeV4 rfl (by conv => lhs; whnf) (by exact Tryz.cells33) (by rfl) (by rfl) ?_)
    refine S.nil ?_
    refine ⟨_, Sub.trans (Sub.keep _ (Sub.keep _ (Sub.keep _ (Sub.keep _ (Sub.drop _ (Sub.drop _ (Sub.nil []))))))) (Sub.trans (Sub.keep _ (Sub.trans (Sub.keep _ (Sub.trans (Sub.keep _ (Sub.trans (Sub.keep _ (Sub.refl _)) (Sub.of_perm (List.perm_middle (l₁ := [_, _]))))) (Sub.of_perm (List.perm_middle (l₁ := [_, _]))))) (Sub.of_perm (List.perm_middle (l₁ := [_, _]))))) (Sub.of_perm (List.perm_middle (l₁ := [_, _])))), O', d', ?_⟩
    simp only [len_snoc, List.map_append, hcs_append, List.map_cons, List.map_nil, hcs_cons, hcs_nil, List.append_nil]
    rfl
  · rintro Dd ys L' rfl ⟨O, d, rfl⟩
    refine TC.seq ?_
    refine TC.region ?_
    refine S.q rfl rfl (Qt.load rfl (Ld.one (v := .slice O (List.finRange m).length d) (Has.at 1 rfl) Tryz.one33 rfl)) ?_
    refine S.opN rfl (OpV.storeV6 rfl (by conv => lhs; whnf) (by exact Tryz.cells33) (by rfl) (by rfl) ?_)
    refine S.opN rfl (OpV.storeV5 rfl (by conv => lhs; whnf) (by exact Tryz.cells51) (by rfl) (by rfl) ?_)
    refine S.nil ?_
    refine TC.ret ?_
    refine finQ.retM rfl (Sub.refl _) (RVs.cell rfl (Ld.one (Has.at 5 rfl) Tryz.one33 (rfl)) (RVs.cell rfl (Ld.one (Has.at 4 rfl) Tryz.one51 (rfl)) RVs.nil)) (Sub.trans (Sub.keep _ (Sub.drop _ (Sub.drop _ (Sub.drop _ (Sub.drop _ (Sub.drop _ (Sub.drop _ (Sub.nil [])))))))) (Sub.trans (Sub.keep _ (Sub.refl _)) (Sub.of_perm (List.perm_middle (l₁ := [_]))))) ?_
    rw [List.length_finRange]
    exact ⟨O, d, rfl, rfl⟩
end Go.Proofs.YtgdjcmehlhebdaaGreatDoor
namespace Go.Proofs.YtgdjcmehlhebdaaGreatDoor
open Go.E
set_option linter.unusedVariables false
set_option maxRecDepth 4000

set_option maxHeartbeats 400000 in
theorem rsides_walk (h f n : Nat) (hh : h ≤ 32) (hf : f + n ≤ 2 ^ h) (h1 : 1 ≤ n) (h2 : n ≤ 256) (w0 : World) :
    Calls Tryz.prog 91 #[.int .i64 (h : Int), .int .u64 (f : Int), .int .i64 (n : Int)] w0 (Post w0 [] fun v L => ∃ A1 c1 A2 c2, v = .tuple #[.slice A1 (sideL f h).length c1, .slice A2 (sideR (f + n - 1) h).length c2] ∧ L = [OwnA 265 2 A1 (sideL f h).length c1 (sdL (sideL f h)), OwnA 265 2 A2 (sideR (f + n - 1) h).length c2 (sdL (sideR (f + n - 1) h))]) := by
  refine Calls.of (L := []) (n := 54) (rs := [.tmp 6, .tmp 7]) Tryz.func91 rfl rfl rfl (Nat.le_of_ble_eq_true rfl) (Sat.nil _) ?_
  have hpw : 2 ^ h ≤ 4294967296 := (show 2 ^ h ≤ 2 ^ 32 from Nat.pow_le_pow_right (by decide) hh)
  refine TC.ownNil 265 2 ?_
  refine TC.ownNil 265 2 ?_
  refine TC.seq ?_
  refine TC.region ?_
  refine S.as ?_
  refine S.as ?_
  refine S.nil ?_
  refine TC.seq ?_
  refine TC.region ?_
  refine S.as ?_
  refine S.as ?_
  refine S.nil ?_
  refine TC.seq ?_
  refine TC.region ?_
  refine S.mv ?_
  refine S.mv ?_
  refine S.q rfl rfl (Qt.convert Tryz.underlying3 Tryz.underlying40 rfl (by simp only [kmax]; omega)) ?_
  refine S.q rfl rfl (Qt.add rfl rfl (by simp only [kmax]; omega)) ?_
  refine S.q rfl rfl (Qt.sub (b := 1) rfl rfl (by omega) (by simp only [kmax]; omega)) ?_
  refine S.as ?_
  refine S.nil ?_
  refine TC.seq ?_
  refine TC.seq ?_
  refine TC.region ?_
  refine S.as ?_
  refine S.nil ?_
  refine TC.block ?_
  refine TC.loop (γ := Nat × (Option Addr × Nat) × (Option Addr × Nat)) [19, 20, 21, 24, 25, 26, 27, 28, 29, 30, 31, 12, 13, 32, 33, 34, 35, 36, 37, 38, 39, 40, 41, 8, 42, 43, 44, 45, 46, 47, 48, 49, 50, 51, 9, 22, 23, 11] (fun g => [(11, .int .i64 ((g.1 : Nat) : Int)), (8, .slice g.2.1.1 (sideL f g.1).length g.2.1.2), (9, .slice g.2.2.1 (sideR (f + n - 1) g.1).length g.2.2.2)]) (fun g => [OwnA 265 2 g.2.1.1 (sideL f g.1).length g.2.1.2 (sdL (sideL f g.1)), OwnA 265 2 g.2.2.1 (sideR (f + n - 1) g.1).length g.2.2.2 (sdL (sideR (f + n - 1) g.1))]) (fun g => g.1 ≤ h) (fun g => h - g.1) ((0, (none, 0), (none, 0)))
    (Nat.zero_le _) ⟨Out.refl _ _, (List.forall_mem_cons.2 ⟨rfl, (List.forall_mem_cons.2 ⟨rfl, (List.forall_mem_cons.2 ⟨rfl, (fun _ h => nomatch h)⟩)⟩)⟩)⟩ (Sub.refl _) ?_
  rintro ⟨k, ⟨A1, c1⟩, ⟨A2, c2⟩⟩ u hk
  dsimp only at hk
  refine TC.seq ?_
  refine TC.seq ?_
  refine TC.region ?_
  refine S.mv ?_
  refine S.mv ?_
  refine S.dec rfl rfl (Qt.lt rfl rfl) (fun h21 => ?_) (fun h21 => ?_)
  · refine S.nil ?_
    refine S.if_t rfl ?_
    refine TC.skip ?_
    refine TC.seq ?_
    refine TC.block ?_
    refine TC.seq ?_
    refine TC.region ?_
    refine S.mv ?_
    refine S.mv ?_
    refine S.q rfl rfl (Qt.convert Tryz.underlying3 Tryz.underlying226 rfl (by simp only [kmax]; omega)) ?_
    refine S.q rfl rfl (Qt.shrN rfl rfl (by simp only [kmax]; omega)) ?_
    refine S.mv ?_
    refine S.mv ?_
    refine S.q rfl rfl (Qt.convert Tryz.underlying3 Tryz.underlying226 rfl (by simp only [kmax]; omega)) ?_
    refine S.q rfl rfl (Qt.shrN rfl rfl (by simp only [kmax]; omega)) ?_
    refine S.as ?_
    refine S.as ?_
    refine S.nil ?_
    refine TC.seq ?_
    refine TC.seq ?_
    refine TC.region ?_
    refine S.mv ?_
    refine S.q rfl rfl (Qt.rem (b := 2) rfl rfl (by omega)) ?_
    refine S.dec rfl rfl (Qt.ne (b := 0) rfl rfl) (fun h34 => ?_) (fun h34 => ?_)
    · refine S.nil ?_
      refine S.if_t rfl ?_
      refine TC.region ?_
      refine S.mv ?_
      refine S.mv ?_
      refine S.mv ?_
      refine S.q rfl rfl (Qt.sub (b := 1) rfl rfl (by have h34b := m2n0 h34; generalize f / 2 ^ k = m at h34b ⊢; omega) (by have := Nat.div_le_self f (2 ^ k); simp only [kmax]; omega)) ?_
      refine S.q rfl rfl (Qt.as (Qt.buildS (vs := [.int .i64 (k : Int), .int .u64 ((f / 2 ^ k - 1 : Nat) : Int)]) (pls := #[(0, 1), (1, 1)]) Tryz.underlying265 (fun w => by kernel_rfl) Tryz.zero265 rfl ⟨rfl, rfl, trivial⟩ rfl) (show _ = Value.agg #[.int .i64 (k : Int), .int .u64 ((f / 2 ^ k - 1 : Nat) : Int)] from rfl)) ?_
      refine S.opS rfl rfl (OpV.slice1 (bytes := 16) (v := .agg #[.int .i64 (k : Int), .int .u64 ((f / 2 ^ k - 1 : Nat) : Int)]) Tryz.underlying188 Tryz.elem265 (by decide) rfl rfl (fun g40 => ?_))
      refine S.opS rfl rfl (OpV.app1 (bytes := 16) (news := sdL [(k, f / 2 ^ k - 1)]) Tryz.underlying188 Tryz.elem265 rfl rfl (Has.blk (cs := sdL [(k, f / 2 ^ k - 1)]) (Has.at 0 rfl)) rfl (sdL_one _) (by have := sideL_len f k; simp only [maxLen]; omega) (by have := sideL_len f k; (try dsimp only); omega) (fun O1 d1 => ?_))
      refine S.as ?_
      refine S.nil ?_
      refine TC.seq ?_
      refine TC.region ?_
      refine S.mv ?_
      refine S.q rfl rfl (Qt.rem (b := 2) rfl rfl (by omega)) ?_
      refine S.dec rfl rfl (Qt.ne (b := 1) rfl rfl) (fun h44 => ?_) (fun h44 => ?_)
      · refine S.nil ?_
        refine S.if_t rfl ?_
        refine TC.region ?_
        refine S.mv ?_
        refine S.mv ?_
        refine S.mv ?_
        refine S.q rfl rfl (Qt.add (b := 1) rfl rfl (by have := Nat.div_le_self (f + n - 1) (2 ^ k); simp only [kmax]; omega)) ?_
        refine S.q rfl rfl (Qt.as (Qt.buildS (vs := [.int .i64 (k : Int), .int .u64 (((f + n - 1) / 2 ^ k + 1 : Nat) : Int)]) (pls := #[(0, 1), (1, 1)]) Tryz.underlying265 (fun w => by kernel_rfl) Tryz.zero265 rfl ⟨rfl, rfl, trivial⟩ rfl) (show _ = Value.agg #[.int .i64 (k : Int), .int .u64 (((f + n - 1) / 2 ^ k + 1 : Nat) : Int)] from rfl)) ?_
        refine S.opS rfl rfl (OpV.slice1 (bytes := 16) (v := .agg #[.int .i64 (k : Int), .int .u64 (((f + n - 1) / 2 ^ k + 1 : Nat) : Int)]) Tryz.underlying188 Tryz.elem265 (by decide) rfl rfl (fun g50 => ?_))
        refine S.opS rfl rfl (OpV.app3 (bytes := 16) (news := sdL [(k, (f + n - 1) / 2 ^ k + 1)]) Tryz.underlying188 Tryz.elem265 rfl rfl (Has.blk (cs := sdL [(k, (f + n - 1) / 2 ^ k + 1)]) (Has.at 0 rfl)) rfl (sdL_one _) (by have := sideR_len (f + n - 1) k; simp only [maxLen]; omega) (by have := sideR_len (f + n - 1) k; (try dsimp only); omega) (fun O2 d2 => ?_))
        refine S.as ?_
        refine S.nil ?_
        refine TC.region ?_
        refine S.mv ?_
        refine S.q rfl rfl (Qt.add (b := 1) rfl rfl (by simp only [kmax]; omega)) ?_
        refine S.as ?_
        refine S.nil ?_
        refine ⟨(k + 1, (O1, d1), (O2, d2)), ?_, ?_, ⟨?_, (List.forall_mem_cons.2 ⟨rfl, (List.forall_mem_cons.2 ⟨(by show Value.slice O1 ((sideL f k).length + 1) d1 = Value.slice O1 (sideL f (k + 1)).length d1; rw [sideL_1 (m2n0 h34), len_snoc]), (List.forall_mem_cons.2 ⟨(by show Value.slice O2 ((sideR (f + n - 1) k).length + 1) d2 = Value.slice O2 (sideR (f + n - 1) (k + 1)).length d2; rw [sideR_1 (m2n1 h44), len_snoc]), (fun _ h => nomatch h)⟩)⟩)⟩)⟩, (by dsimp only; rw [sideL_1 (m2n0 h34), len_snoc, sdL_app, sideR_1 (m2n1 h44), len_snoc, sdL_app]; exact Sub.trans (Sub.keep _ (Sub.keep _ (Sub.drop _ (Sub.drop _ (Sub.nil []))))) (Sub.trans (Sub.keep _ (Sub.trans (Sub.keep _ (Sub.refl _)) (Sub.of_perm (List.perm_middle (l₁ := [_, _]))))) (Sub.of_perm (List.perm_middle (l₁ := [_, _])))))⟩
        · show _ ≤ _; dsimp only; omega
        · show _ < _; dsimp only; omega
        repeat (first | exact Out.refl _ _ | refine Out.put rfl ?_ | refine Out.puts rfl ?_ | refine Out.scr ?_ | refine Out.scr' rfl ?_)
      · refine S.nil ?_
        refine S.if_f rfl ?_
        refine TC.skip ?_
        refine TC.region ?_
        refine S.mv ?_
        refine S.q rfl rfl (Qt.add (b := 1) rfl rfl (by simp only [kmax]; omega)) ?_
        refine S.as ?_
        refine S.nil ?_
        refine ⟨(k + 1, (O1, d1), (A2, c2)), ?_, ?_, ⟨?_, (List.forall_mem_cons.2 ⟨rfl, (List.forall_mem_cons.2 ⟨(by show Value.slice O1 ((sideL f k).length + 1) d1 = Value.slice O1 (sideL f (k + 1)).length d1; rw [sideL_1 (m2n0 h34), len_snoc]), (List.forall_mem_cons.2 ⟨(by show Value.slice A2 (sideR (f + n - 1) k).length c2 = Value.slice A2 (sideR (f + n - 1) (k + 1)).length c2; rw [sideR_0 (m2n1f h44)]), (fun _ h => nomatch h)⟩)⟩)⟩)⟩, (by dsimp only; rw [sideL_1 (m2n0 h34), len_snoc, sdL_app, sideR_0 (m2n1f h44)]; exact Sub.trans (Sub.keep _ (Sub.keep _ (Sub.drop _ (Sub.nil [])))) (Sub.trans (Sub.keep _ (Sub.trans (Sub.keep _ (Sub.refl _)) (Sub.of_perm (List.perm_middle (l₁ := [_]))))) (Sub.of_perm (List.perm_middle (l₁ := [_])))))⟩
        · show _ ≤ _; dsimp only; omega
        · show _ < _; dsimp only; omega
        repeat (first | exact Out.refl _ _ | refine Out.put rfl ?_ | refine Out.puts rfl ?_ | refine Out.scr ?_ | refine Out.scr' rfl ?_)
    · refine S.nil ?_
      refine S.if_f rfl ?_
      refine TC.skip ?_
      refine TC.seq ?_
      refine TC.region ?_
      refine S.mv ?_
      refine S.q rfl rfl (Qt.rem (b := 2) rfl rfl (by omega)) ?_
      refine S.dec rfl rfl (Qt.ne (b := 1) rfl rfl) (fun h44 => ?_) (fun h44 => ?_)
      · refine S.nil ?_
        refine S.if_t rfl ?_
        refine TC.region ?_
        refine S.mv ?_
        refine S.mv ?_
        refine S.mv ?_
        refine S.q rfl rfl (Qt.add (b := 1) rfl rfl (by have := Nat.div_le_self (f + n - 1) (2 ^ k); simp only [kmax]; omega)) ?_
        refine S.q rfl rfl (Qt.as (Qt.buildS (vs := [.int .i64 (k : Int), .int .u64 (((f + n - 1) / 2 ^ k + 1 : Nat) : Int)]) (pls := #[(0, 1), (1, 1)]) Tryz.underlying265 (fun w => by kernel_rfl) Tryz.zero265 rfl ⟨rfl, rfl, trivial⟩ rfl) (show _ = Value.agg #[.int .i64 (k : Int), .int .u64 (((f + n - 1) / 2 ^ k + 1 : Nat) : Int)] from rfl)) ?_
        refine S.opS rfl rfl (OpV.slice1 (bytes := 16) (v := .agg #[.int .i64 (k : Int), .int .u64 (((f + n - 1) / 2 ^ k + 1 : Nat) : Int)]) Tryz.underlying188 Tryz.elem265 (by decide) rfl rfl (fun g50 => ?_))
        refine S.opS rfl rfl (OpV.app2 (bytes := 16) (news := sdL [(k, (f + n - 1) / 2 ^ k + 1)]) Tryz.underlying188 Tryz.elem265 rfl rfl (Has.blk (cs := sdL [(k, (f + n - 1) / 2 ^ k + 1)]) (Has.at 0 rfl)) rfl (sdL_one _) (by have := sideR_len (f + n - 1) k; simp only [maxLen]; omega) (by have := sideR_len (f + n - 1) k; (try dsimp only); omega) (fun O2 d2 => ?_))
        refine S.as ?_
        refine S.nil ?_
        refine TC.region ?_
        refine S.mv ?_
        refine S.q rfl rfl (Qt.add (b := 1) rfl rfl (by simp only [kmax]; omega)) ?_
        refine S.as ?_
        refine S.nil ?_
        refine ⟨(k + 1, (A1, c1), (O2, d2)), ?_, ?_, ⟨?_, (List.forall_mem_cons.2 ⟨rfl, (List.forall_mem_cons.2 ⟨(by show Value.slice A1 (sideL f k).length c1 = Value.slice A1 (sideL f (k + 1)).length c1; rw [sideL_0 (m2n0f h34)]), (List.forall_mem_cons.2 ⟨(by show Value.slice O2 ((sideR (f + n - 1) k).length + 1) d2 = Value.slice O2 (sideR (f + n - 1) (k + 1)).length d2; rw [sideR_1 (m2n1 h44), len_snoc]), (fun _ h => nomatch h)⟩)⟩)⟩)⟩, (by dsimp only; rw [sideL_0 (m2n0f h34), sideR_1 (m2n1 h44), len_snoc, sdL_app]; exact Sub.trans (Sub.keep _ (Sub.keep _ (Sub.drop _ (Sub.nil [])))) (Sub.trans (Sub.keep _ (Sub.trans (Sub.keep _ (Sub.refl _)) (Sub.of_perm (List.perm_middle (l₁ := [_]))))) (Sub.of_perm (List.perm_middle (l₁ := [_])))))⟩
        · show _ ≤ _; dsimp only; omega
        · show _ < _; dsimp only; omega
        repeat (first | exact Out.refl _ _ | refine Out.put rfl ?_ | refine Out.puts rfl ?_ | refine Out.scr ?_ | refine Out.scr' rfl ?_)
      · refine S.nil ?_
        refine S.if_f rfl ?_
        refine TC.skip ?_
        refine TC.region ?_
        refine S.mv ?_
        refine S.q rfl rfl (Qt.add (b := 1) rfl rfl (by simp only [kmax]; omega)) ?_
        refine S.as ?_
        refine S.nil ?_
        refine ⟨(k + 1, (A1, c1), (A2, c2)), ?_, ?_, ⟨?_, (List.forall_mem_cons.2 ⟨rfl, (List.forall_mem_cons.2 ⟨(by show Value.slice A1 (sideL f k).length c1 = Value.slice A1 (sideL f (k + 1)).length c1; rw [sideL_0 (m2n0f h34)]), (List.forall_mem_cons.2 ⟨(by show Value.slice A2 (sideR (f + n - 1) k).length c2 = Value.slice A2 (sideR (f + n - 1) (k + 1)).length c2; rw [sideR_0 (m2n1f h44)]), (fun _ h => nomatch h)⟩)⟩)⟩)⟩, (by dsimp only; rw [sideL_0 (m2n0f h34), sideR_0 (m2n1f h44)]; exact Sub.refl _)⟩
        · show _ ≤ _; dsimp only; omega
        · show _ < _; dsimp only; omega
        repeat (first | exact Out.refl _ _ | refine Out.put rfl ?_ | refine Out.puts rfl ?_ | refine Out.scr ?_ | refine Out.scr' rfl ?_)
  · refine S.nil ?_
    refine S.if_f rfl ?_
    refine TC.exit ?_
    refine TC.seq ?_
    refine TC.region ?_
    refine S.mv ?_
    refine S.mv ?_
    refine S.as ?_
    refine S.as ?_
    refine S.nil ?_
    refine TC.ret ?_
    refine finQ.ret (RVs.tmp (by conv => lhs; whnf) (RVs.tmp (by conv => lhs; whnf) RVs.nil)) (Sub.refl _) ?_
    obtain rfl : k = h := by omega
    exact ⟨A1, c1, A2, c2, rfl, rfl⟩
end Go.Proofs.YtgdjcmehlhebdaaGreatDoor
