/-
  Walks: a hash put before a row. Printed by a program of ours.
-/
import Derived.Test.YtlneklemjfefpaaDoorFX
import Derived.Test.YtlneklemjfefpaaDoorEZ
import Derived.Test.YtlneklemjfefpaaDoorP1
namespace Go.Proofs.YtlneklemjfefpaaDoor
open Go.E
set_option linter.unusedVariables false
set_option maxRecDepth 4000

theorem ins_cells (x : H32) (xs : List H32) (cs : List Value) : (hvl x ++ cs.drop 32).take 32 ++ hcs xs ++ (hvl x ++ cs.drop 32).drop (32 + (hcs xs).length) = hcs (x :: xs) ++ cs.drop ((xs.length + 1) * 32) := by
  rw [List.take_left' (hvl_length x), ← List.drop_drop, List.drop_left' (hvl_length x), List.drop_drop, hcs_length, hcs_cons, show 32 + xs.length * 32 = (xs.length + 1) * 32 by omega]
theorem ins_cells2 (x : H32) (xs : List H32) (cs r : List Value) (h : 32 ≤ cs.length) : (cs.take 32 ++ hcs xs ++ r).take 0 ++ hvl x ++ (cs.take 32 ++ hcs xs ++ r).drop (0 + (hvl x).length) = hcs (x :: xs) ++ r := by
  rw [List.take_zero, List.nil_append, Nat.zero_add, hvl_length, List.append_assoc (cs.take 32), List.drop_left' (by rw [List.length_take]; omega), hcs_cons, List.append_assoc]
theorem Has.front {C : Ctx} {L : List Assn} {b k : Nat} {T : TypeId} {cs ys : List Value} (h : Has C L (Blk b T cs)) (e : cs.take k = ys) : Has C L (SlA (some ⟨b, 0, none⟩) ys) := e ▸ Has.take (Has.blk h) k
theorem TL.shutOwn {C : Ctx} {Q : EQ} {env : Env} {ops : Array Oper} {l : List Oper} {L0 L : List Assn} {e : TypeId} {sz g n c : Nat} {cs : List Value} (hl : cs.length = c * sz) (hn : n ≤ c) (hm : c ≤ maxLen) (s : L0.Perm (Blk g e cs :: L)) (h : TL C ops Q l env (OwnA e sz (some ⟨g, 0, none⟩) n c (cs.take (n * sz)) :: L)) : TL C ops Q l env L0 :=
  fun a w ha hw => h a w ha ((hw.perm s).shutOwn hl hn hm)
set_option maxHeartbeats 800000 in
theorem ins_walkG (A : Option Addr) (c : Nat) (xs : List H32) (gv : Nat) (x : H32) (h0 : 0 < xs.length) (hm : xs.length ≤ 65536) (hg : c < xs.length + 1) (w0 : World) (hL : Sat w0 [OwnA 23 32 A xs.length c (hcs xs)]) (hV : Ro w0 (fps [OwnA 23 32 A xs.length c (hcs xs)]) (Blk gv 23 (hvl x))) :
    Calls Tryd.prog 114 #[.slice A xs.length c, .int .i64 ((0 : Nat) : Int), .slice (some ⟨gv, 0, none⟩) 1 1] w0 (Post w0 (fps [OwnA 23 32 A xs.length c (hcs xs)]) fun v L => ∃ O d, v = .slice O (xs.length + 1) d ∧ L = [OwnA 23 32 O (xs.length + 1) d (hcs (x :: xs))]) := by
  refine Calls.of (L := [OwnA 23 32 A xs.length c (hcs xs)]) (n := 95) (rs := [.tmp 6]) Tryd.func114 rfl rfl rfl (Nat.le_of_ble_eq_true rfl) (hL) ?_
  refine TC.openOwn (fun hA hz _ _ => absurd hz (by omega)) (fun g cs hO hct hcl hnc hcm => ?_)
  subst hO
  have hgv : gv ≠ g := fun e => by have q := hV.2 gv (List.mem_singleton.2 rfl); subst e; exact q.2 (by simp [fps, OwnA, Value.ownBlock])
  have hcx : (hcs xs).length = xs.length * 32 := hcs_length xs
  refine TC.seq ?_
  refine TC.region ?_
  refine S.q rfl rfl (Qt.assign (by conv => lhs; whnf)) ?_
  refine S.nil ?_
  refine TC.seq ?_
  refine TC.region ?_
  refine S.q rfl rfl (Qt.move (by conv => lhs; whnf)) ?_
  refine S.q rfl rfl (Qt.move (by conv => lhs; whnf)) ?_
  refine S.q rfl rfl (Qt.slice_lo Tryd.underlying44 Tryd.cells23 rfl rfl (by omega)) ?_
  refine S.nil ?_
  refine TC.seq ?_
  refine TC.region ?_
  refine S.q rfl rfl (Qt.move (by conv => lhs; whnf)) ?_
  refine S.q rfl rfl (Qt.len_slice Tryd.underlying44 rfl) ?_
  refine S.q rfl rfl (Qt.assign (by conv => lhs; whnf)) ?_
  refine S.nil ?_
  refine TC.seq ?_
  refine TC.seq ?_
  refine TC.region ?_
  refine S.q rfl rfl (Qt.move (by conv => lhs; whnf)) ?_
  refine S.q rfl rfl (Qt.dF (Qt.eq (b := 0) rfl rfl) (by decide)) ?_
  refine S.nil ?_
  refine S.if_f rfl ?_
  refine TC.skip ?_
  refine TC.seq ?_
  refine TC.region ?_
  refine S.q rfl rfl (Qt.move (by conv => lhs; whnf)) ?_
  refine S.q rfl rfl (Qt.len_slice Tryd.underlying44 rfl) ?_
  refine S.q rfl rfl (Qt.assign (by conv => lhs; whnf)) ?_
  refine S.nil ?_
  refine TC.seq ?_
  refine TC.seq ?_
  refine TC.region ?_
  refine S.q rfl rfl (Qt.move (by conv => lhs; whnf)) ?_
  refine S.q rfl rfl (Qt.move (by conv => lhs; whnf)) ?_
  refine S.q rfl rfl (Qt.dF (Qt.eq rfl rfl) (by omega)) ?_
  refine S.nil ?_
  refine S.if_f rfl ?_
  refine TC.skip ?_
  refine TC.seq ?_
  refine TC.seq ?_
  refine TC.region ?_
  refine S.q rfl rfl (Qt.move (by conv => lhs; whnf)) ?_
  refine S.q rfl rfl (Qt.move (by conv => lhs; whnf)) ?_
  refine S.q rfl rfl (Qt.add rfl rfl (by simp only [kmax]; omega)) ?_
  refine S.q rfl rfl (Qt.move (by conv => lhs; whnf)) ?_
  refine S.q rfl rfl (Qt.capS Tryd.underlying44 rfl) ?_
  refine S.q rfl rfl (Qt.dT (Qt.gt rfl rfl) (by omega)) ?_
  refine S.nil ?_
  refine S.if_t rfl ?_
  refine TC.seq ?_
  refine TC.region ?_
  refine S.q rfl rfl (Qt.move (by conv => lhs; whnf)) ?_
  refine S.q rfl rfl (Qt.move (by conv => lhs; whnf)) ?_
  refine S.q rfl rfl (Qt.slice_hi Tryd.underlying44 Tryd.cells23 rfl rfl (by omega)) ?_
  refine S.q rfl rfl (Qt.move (by conv => lhs; whnf)) ?_
  refine S.q rfl rfl (Qt.move (by conv => lhs; whnf)) ?_
  refine S.q rfl rfl (Qt.add rfl rfl (by simp only [kmax]; omega)) ?_
  refine S.q rfl rfl (Qt.move (by conv => lhs; whnf)) ?_
  refine S.q rfl rfl (Qt.as (Qt.sub (b := 0) rfl rfl (by omega) (by simp only [kmax]; omega)) (by rw [Nat.sub_zero])) ?_
  refine S.opS rfl rfl (OpV.appZ Tryd.underlying44 Tryd.underlying3 Tryd.elem23 rfl rfl (by omega) (by simp only [maxLen]; omega) (by omega) (fun n1 c1 cs1 hc1 hm1 hl1 => ?_))
  refine S.q rfl rfl (Qt.assign (by conv => lhs; whnf)) ?_
  refine S.nil ?_
  refine TC.seq ?_
  refine TC.region ?_
  refine S.q rfl rfl (Qt.move (by conv => lhs; whnf)) ?_
  refine S.q rfl rfl (Qt.move (by conv => lhs; whnf)) ?_
  refine S.q rfl rfl (Qt.as (v' := .slice (some ⟨n1, 0, none⟩) (xs.length + 1) c1) (Qt.slice_lo (l := 0) Tryd.underlying44 Tryd.cells23 rfl rfl (by omega)) (by simp [Addr.add])) ?_
  refine S.q rfl rfl (Qt.move (by conv => lhs; whnf)) ?_
  refine S.opS rfl rfl (OpV.copy0 (cs' := hvl x ++ cs1.drop 32) (news := hvl x) Tryd.underlying44 Tryd.cells23 rfl rfl (Has.blk (Has.ro hV)) (by rw [hvl_length, Nat.min_eq_left (by omega)]) (bytesL_one _) (by rw [hvl_length, hl1]; omega) (by rw [hvl_length]; simp) ?_)
  refine S.nil ?_
  refine TC.seq ?_
  refine S.draw ([8], []) Tryd.mixed (Sub.drop _ (Sub.keep _ (Sub.nil []))) ?_
  refine D.qX (k := 0) rfl (by kernel_rfl) (by kernel_rfl) (by kernel_rfl) rfl rfl (Qt.move (by conv => lhs; whnf)) ?_
  refine D.qX (k := 1) rfl (by kernel_rfl) (by kernel_rfl) (by kernel_rfl) rfl rfl (Qt.move (by conv => lhs; whnf)) ?_
  refine D.qX (k := 2) rfl (by kernel_rfl) (by kernel_rfl) (by kernel_rfl) rfl rfl (Qt.move (by conv => lhs; whnf)) ?_
  refine D.qX (k := 3) rfl (by kernel_rfl) (by kernel_rfl) (by kernel_rfl) rfl rfl (Qt.add rfl rfl (by simp only [kmax]; omega)) ?_
  refine D.qX (k := 4) rfl (by kernel_rfl) (by kernel_rfl) (by kernel_rfl) rfl rfl (Qt.as (v' := .slice (some ⟨n1, 32, none⟩) xs.length (c1 - 1)) (Qt.slice_lo (l := 0 + 1) Tryd.underlying44 Tryd.cells23 rfl rfl (by omega)) (by rw [if_neg (by omega)]; simp [Addr.add])) ?_
  refine D.qX (k := 5) rfl (by kernel_rfl) (by kernel_rfl) (by kernel_rfl) rfl rfl (Qt.move (by conv => lhs; whnf)) ?_
  refine D.qX (k := 6) rfl (by kernel_rfl) (by kernel_rfl) (by kernel_rfl) rfl rfl (Qt.move (by conv => lhs; whnf)) ?_
  refine D.qX (k := 7) rfl (by kernel_rfl) (by kernel_rfl) (by kernel_rfl) rfl rfl (Qt.as (v' := .slice (some ⟨g, 0, none⟩) xs.length c) (Qt.slice_lo (l := 0) Tryd.underlying44 Tryd.cells23 rfl rfl (by omega)) (by simp [Addr.add])) ?_
  refine D.opS (k := 8) (Sub.drop _ (Sub.keep _ (Sub.nil []))) rfl (by kernel_rfl) (by kernel_rfl) rfl rfl (OpV.copy0 (cs' := hcs (x :: xs) ++ cs1.drop ((xs.length + 1) * 32)) (news := hcs xs) Tryd.underlying44 Tryd.cells23 rfl rfl (Has.front (Has.at 1 rfl) hct) (by rw [hcx, Nat.min_self]) (hcs_one _) (by rw [hcx, List.length_append, hvl_length, List.length_drop, hl1]; omega) (ins_cells x xs cs1) ⟨Sub.drop _ (Sub.keep _ (Sub.nil [])), ?_⟩)
  refine D.done (Sub.drop _ (Sub.keep _ (Sub.nil []))) (by kernel_rfl) ?_
  refine TC.seq ?_
  refine TC.region ?_
  refine TL.shutOwn (n := xs.length + 1) (sz := 32) (by rw [List.length_append, hcs_length, List.length_drop, hl1, List.length_cons]; omega) (hc1) (hm1) (List.Perm.refl _) ?_
  rw [List.take_left' (by rw [hcs_length, List.length_cons])]
  refine S.q rfl rfl (Qt.move (by conv => lhs; whnf)) ?_
  refine S.q rfl rfl (Qt.assign (by conv => lhs; whnf)) ?_
  refine S.nil ?_
  refine TC.ret ?_
  refine finQ.ret (RVs.tmp (by conv => lhs; whnf) RVs.nil) (Sub.keep _ (Sub.drop _ (Sub.nil []))) ?_
  exact ⟨some ⟨n1, 0, none⟩, c1, rfl, rfl⟩
set_option maxHeartbeats 800000 in
theorem ins_walkR (A : Option Addr) (c : Nat) (xs : List H32) (gv : Nat) (x : H32) (h0 : 0 < xs.length) (hm : xs.length ≤ 65536) (hg : xs.length + 1 ≤ c) (w0 : World) (hL : Sat w0 [OwnA 23 32 A xs.length c (hcs xs)]) (hV : Ro w0 (fps [OwnA 23 32 A xs.length c (hcs xs)]) (Blk gv 23 (hvl x))) :
    Calls Tryd.prog 114 #[.slice A xs.length c, .int .i64 ((0 : Nat) : Int), .slice (some ⟨gv, 0, none⟩) 1 1] w0 (Post w0 (fps [OwnA 23 32 A xs.length c (hcs xs)]) fun v L => ∃ O d, v = .slice O (xs.length + 1) d ∧ L = [OwnA 23 32 O (xs.length + 1) d (hcs (x :: xs))]) := by
  refine Calls.of (L := [OwnA 23 32 A xs.length c (hcs xs)]) (n := 95) (rs := [.tmp 6]) Tryd.func114 rfl rfl rfl (Nat.le_of_ble_eq_true rfl) (hL) ?_
  refine TC.openOwn (fun hA hz _ _ => absurd hz (by omega)) (fun g cs hO hct hcl hnc hcm => ?_)
  subst hO
  have hgv : gv ≠ g := fun e => by have q := hV.2 gv (List.mem_singleton.2 rfl); subst e; exact q.2 (by simp [fps, OwnA, Value.ownBlock])
  have hcx : (hcs xs).length = xs.length * 32 := hcs_length xs
  refine TC.seq ?_
  refine TC.region ?_
  refine S.q rfl rfl (Qt.assign (by conv => lhs; whnf)) ?_
  refine S.nil ?_
  refine TC.seq ?_
  refine TC.region ?_
  refine S.q rfl rfl (Qt.move (by conv => lhs; whnf)) ?_
  refine S.q rfl rfl (Qt.move (by conv => lhs; whnf)) ?_
  refine S.q rfl rfl (Qt.slice_lo Tryd.underlying44 Tryd.cells23 rfl rfl (by omega)) ?_
  refine S.nil ?_
  refine TC.seq ?_
  refine TC.region ?_
  refine S.q rfl rfl (Qt.move (by conv => lhs; whnf)) ?_
  refine S.q rfl rfl (Qt.len_slice Tryd.underlying44 rfl) ?_
  refine S.q rfl rfl (Qt.assign (by conv => lhs; whnf)) ?_
  refine S.nil ?_
  refine TC.seq ?_
  refine TC.seq ?_
  refine TC.region ?_
  refine S.q rfl rfl (Qt.move (by conv => lhs; whnf)) ?_
  refine S.q rfl rfl (Qt.dF (Qt.eq (b := 0) rfl rfl) (by decide)) ?_
  refine S.nil ?_
  refine S.if_f rfl ?_
  refine TC.skip ?_
  refine TC.seq ?_
  refine TC.region ?_
  refine S.q rfl rfl (Qt.move (by conv => lhs; whnf)) ?_
  refine S.q rfl rfl (Qt.len_slice Tryd.underlying44 rfl) ?_
  refine S.q rfl rfl (Qt.assign (by conv => lhs; whnf)) ?_
  refine S.nil ?_
  refine TC.seq ?_
  refine TC.seq ?_
  refine TC.region ?_
  refine S.q rfl rfl (Qt.move (by conv => lhs; whnf)) ?_
  refine S.q rfl rfl (Qt.move (by conv => lhs; whnf)) ?_
  refine S.q rfl rfl (Qt.dF (Qt.eq rfl rfl) (by omega)) ?_
  refine S.nil ?_
  refine S.if_f rfl ?_
  refine TC.skip ?_
  refine TC.seq ?_
  refine TC.seq ?_
  refine TC.region ?_
  refine S.q rfl rfl (Qt.move (by conv => lhs; whnf)) ?_
  refine S.q rfl rfl (Qt.move (by conv => lhs; whnf)) ?_
  refine S.q rfl rfl (Qt.add rfl rfl (by simp only [kmax]; omega)) ?_
  refine S.q rfl rfl (Qt.move (by conv => lhs; whnf)) ?_
  refine S.q rfl rfl (Qt.capS Tryd.underlying44 rfl) ?_
  refine S.q rfl rfl (Qt.dF (Qt.gt rfl rfl) (by omega)) ?_
  refine S.nil ?_
  refine S.if_f rfl ?_
  refine TC.skip ?_
  refine TC.seq ?_
  refine TC.region ?_
  refine S.q rfl rfl (Qt.move (by conv => lhs; whnf)) ?_
  refine S.q rfl rfl (Qt.move (by conv => lhs; whnf)) ?_
  refine S.q rfl rfl (Qt.move (by conv => lhs; whnf)) ?_
  refine S.q rfl rfl (Qt.add rfl rfl (by simp only [kmax]; omega)) ?_
  refine S.q rfl rfl (Qt.slice_hi Tryd.underlying44 Tryd.cells23 rfl rfl (by omega)) ?_
  refine S.q rfl rfl (Qt.assign (by conv => lhs; whnf)) ?_
  refine S.nil ?_
  refine TC.seq ?_
  refine TC.seq ?_
  refine TC.region ?_
  refine S.q rfl rfl (Qt.move (by conv => lhs; whnf)) ?_
  refine S.q rfl rfl (Qt.move (by conv => lhs; whnf)) ?_
  refine S.q rfl rfl (Qt.move (by conv => lhs; whnf)) ?_
  refine S.q rfl rfl (Qt.move (by conv => lhs; whnf)) ?_
  refine S.q rfl rfl (Qt.add rfl rfl (by simp only [kmax]; omega)) ?_
  refine S.q rfl rfl (Qt.as (v' := .slice (some ⟨g, 32, none⟩) xs.length (c - 1)) (Qt.slice_lo (l := 0 + 1) Tryd.underlying44 Tryd.cells23 rfl rfl (by omega)) (by rw [if_neg (by omega)]; simp [Addr.add])) ?_
  refine S.q rfl rfl (Qt.overlaps (T := 44) (e := 23) (TR := 4) Tryd.func136 (by kernel_rfl) (by kernel_rfl) (by kernel_rfl) (by kernel_rfl) Tryd.underlying44 Tryd.cells23 rfl rfl rfl (Has.ro hV) (Has.at 0 rfl) hgv (by rw [hcl]; omega)) ?_
  refine S.q rfl rfl (Qt.not_f rfl) ?_
  refine S.nil ?_
  refine S.if_t rfl ?_
  refine TC.seq ?_
  refine S.draw ([8], []) Tryd.mixed (Sub.nil _) ?_
  refine D.qX (k := 0) rfl (by kernel_rfl) (by kernel_rfl) (by kernel_rfl) rfl rfl (Qt.move (by conv => lhs; whnf)) ?_
  refine D.qX (k := 1) rfl (by kernel_rfl) (by kernel_rfl) (by kernel_rfl) rfl rfl (Qt.move (by conv => lhs; whnf)) ?_
  refine D.qX (k := 2) rfl (by kernel_rfl) (by kernel_rfl) (by kernel_rfl) rfl rfl (Qt.move (by conv => lhs; whnf)) ?_
  refine D.qX (k := 3) rfl (by kernel_rfl) (by kernel_rfl) (by kernel_rfl) rfl rfl (Qt.add rfl rfl (by simp only [kmax]; omega)) ?_
  refine D.qX (k := 4) rfl (by kernel_rfl) (by kernel_rfl) (by kernel_rfl) rfl rfl (Qt.as (v' := .slice (some ⟨g, 32, none⟩) xs.length (c - 1)) (Qt.slice_lo (l := 0 + 1) Tryd.underlying44 Tryd.cells23 rfl rfl (by omega)) (by rw [if_neg (by omega)]; simp [Addr.add])) ?_
  refine D.qX (k := 5) rfl (by kernel_rfl) (by kernel_rfl) (by kernel_rfl) rfl rfl (Qt.move (by conv => lhs; whnf)) ?_
  refine D.qX (k := 6) rfl (by kernel_rfl) (by kernel_rfl) (by kernel_rfl) rfl rfl (Qt.move (by conv => lhs; whnf)) ?_
  refine D.qX (k := 7) rfl (by kernel_rfl) (by kernel_rfl) (by kernel_rfl) rfl rfl (Qt.as (v' := .slice (some ⟨g, 0, none⟩) (xs.length + 1) c) (Qt.slice_lo (l := 0) Tryd.underlying44 Tryd.cells23 rfl rfl (by omega)) (by simp [Addr.add])) ?_
  refine D.opS (k := 8) (Sub.nil _) rfl (by kernel_rfl) (by kernel_rfl) rfl rfl (OpV.copy0 (cs' := cs.take 32 ++ hcs xs ++ cs.drop (32 + (hcs xs).length)) (news := hcs xs) Tryd.underlying44 Tryd.cells23 rfl rfl (Has.front (Has.at 0 rfl) hct) (by rw [hcx, Nat.min_eq_right (by omega)]) (hcs_one _) (by rw [hcx, hcl]; omega) (rfl) ⟨Sub.nil _, ?_⟩)
  refine D.done (Sub.nil _) (by kernel_rfl) ?_
  refine TC.seq ?_
  refine TC.region ?_
  refine S.q rfl rfl (Qt.move (by conv => lhs; whnf)) ?_
  refine S.q rfl rfl (Qt.move (by conv => lhs; whnf)) ?_
  refine S.q rfl rfl (Qt.as (v' := .slice (some ⟨g, 0, none⟩) (xs.length + 1) c) (Qt.slice_lo (l := 0) Tryd.underlying44 Tryd.cells23 rfl rfl (by omega)) (by simp [Addr.add])) ?_
  refine S.q rfl rfl (Qt.move (by conv => lhs; whnf)) ?_
  refine S.opS rfl rfl (OpV.copy0 (cs' := hcs (x :: xs) ++ cs.drop (32 + (hcs xs).length)) (news := hvl x) Tryd.underlying44 Tryd.cells23 rfl rfl (Has.blk (Has.ro hV)) (by rw [hvl_length, Nat.min_eq_left (by omega)]) (bytesL_one _) (by rw [hvl_length, List.length_append, List.length_append, List.length_take, hcx, hcl]; omega) (ins_cells2 x xs cs _ (by rw [hcl]; omega)) ?_)
  refine S.nil ?_
  refine TC.seq ?_
  refine TC.region ?_
  refine TL.shutOwn (n := xs.length + 1) (sz := 32) (by rw [List.length_append, hcs_length, List.length_drop, hcx, hcl, List.length_cons]; omega) (hg) (hcm) (List.Perm.refl _) ?_
  rw [List.take_left' (by rw [hcs_length, List.length_cons])]
  refine S.q rfl rfl (Qt.move (by conv => lhs; whnf)) ?_
  refine S.q rfl rfl (Qt.assign (by conv => lhs; whnf)) ?_
  refine S.nil ?_
  refine TC.ret ?_
  refine finQ.ret (RVs.tmp (by conv => lhs; whnf) RVs.nil) (Sub.refl _) ?_
  exact ⟨some ⟨g, 0, none⟩, c, rfl, rfl⟩
theorem insert_walk (A : Option Addr) (c : Nat) (xs : List H32) (gv : Nat) (x : H32) (h0 : 0 < xs.length) (hm : xs.length ≤ 65536)  (w0 : World) (hL : Sat w0 [OwnA 23 32 A xs.length c (hcs xs)]) (hV : Ro w0 (fps [OwnA 23 32 A xs.length c (hcs xs)]) (Blk gv 23 (hvl x))) : Calls Tryd.prog 114 #[.slice A xs.length c, .int .i64 ((0 : Nat) : Int), .slice (some ⟨gv, 0, none⟩) 1 1] w0 (Post w0 (fps [OwnA 23 32 A xs.length c (hcs xs)]) fun v L => ∃ O d, v = .slice O (xs.length + 1) d ∧ L = [OwnA 23 32 O (xs.length + 1) d (hcs (x :: xs))]) := by
  rcases Nat.lt_or_ge c (xs.length + 1) with h | h
  · exact ins_walkG A c xs gv x h0 hm h w0 hL hV
  · exact ins_walkR A c xs gv x h0 hm h w0 hL hV

end Go.Proofs.YtlneklemjfefpaaDoor
