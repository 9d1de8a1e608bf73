/-
  Plain laws for what deletes and counts while it goes through a map.
-/
import Derived.Test.YtlneklemjfefpaaDoorMK
import Derived.Test.YtlneklemjfefpaaDoorE2
namespace Go.E
set_option linter.unusedSectionVars false
set_option linter.unusedVariables false
section
variable {κ α : Type} [DecidableEq κ]
theorem len_le_of_sub : ∀ {l m : List κ}, l.Nodup → (∀ x ∈ l, x ∈ m) → l.length ≤ m.length
  | [], _, _, _ => Nat.zero_le _
  | a :: l, m, hn, hs => by
    rw [List.nodup_cons] at hn
    have ha := hs a (List.mem_cons_self ..)
    have h := len_le_of_sub (m := m.erase a) hn.2 fun x hx => by
      have hne : x ≠ a := fun e => hn.1 (e ▸ hx)
      exact (List.mem_erase_of_ne hne).2 (hs x (List.mem_cons_of_mem _ hx))
    have h2 := List.length_erase_of_mem ha
    have h3 := List.length_pos_of_mem ha
    simp only [List.length_cons]; omega
theorem mem_keys {ms : List (κ × α)} {p : κ × α} (h : p ∈ ms) : p.1 ∈ keysOf ms := List.mem_map_of_mem h
theorem keys_len (ms : List (κ × α)) : (keysOf ms).length = ms.length := by simp [keysOf]
theorem done_step {ms : List (κ × α)} {done : List κ} {k : κ} {a : α} (h1 : done.Nodup) (h2 : ∀ x ∈ done, x ∈ keysOf ms) (hm : (k, a) ∈ ms) (hk : k ∉ done) :
    ((done ++ [k]).Nodup ∧ ∀ x ∈ done ++ [k], x ∈ keysOf ms) ∧ ms.length - (done ++ [k]).length < ms.length - done.length := by
  have hn : (done ++ [k]).Nodup := List.nodup_append.2 ⟨h1, by simp, fun x hx y hy e => by simp at hy; subst hy e; exact hk hx⟩
  have hs : ∀ x ∈ done ++ [k], x ∈ keysOf ms := fun x hx => by
    rcases List.mem_append.1 hx with hx | hx
    · exact h2 x hx
    · simp at hx; subst hx; exact mem_keys hm
  have := len_le_of_sub hn hs
  rw [keys_len] at this
  simp only [List.length_append, List.length_cons, List.length_nil] at *
  exact ⟨⟨hn, hs⟩, by omega⟩
theorem delR_filter (k : κ) : ∀ {ms : List (κ × α)}, (keysOf ms).Nodup → delR k ms = ms.filter (fun p => decide (p.1 ≠ k))
  | [], _ => rfl
  | p :: ms, h => by
    simp only [keysOf, List.map_cons, List.nodup_cons] at h
    have ih := delR_filter k (ms := ms) h.2
    simp only [delR]
    by_cases hk : k = p.1
    · subst hk
      rw [if_pos rfl]
      simp only [ne_eq, not_true_eq_false, decide_false, Bool.false_eq_true, not_false_eq_true, List.filter_cons_of_neg]
      rw [List.filter_eq_self.2]
      intro q hq
      simp only [decide_eq_true_eq]
      exact fun e => h.1 (e ▸ List.mem_map_of_mem hq)
    · rw [if_neg hk]
      have hk' : p.1 ≠ k := fun e => hk e.symm
      simp [hk', ih]
theorem keys_filter {ms : List (κ × α)} (f : κ × α → Bool) (h : (keysOf ms).Nodup) : (keysOf (ms.filter f)).Nodup :=
  h.sublist (List.Sublist.map _ (List.filter_sublist ..))
end
def keep (q : Nat) (ms : Ms) : Ms := ms.filter fun p => decide (p.1 < q)
def beyond (q : Nat) (ms : Ms) : Nat := (ms.filter fun p => decide (q ≤ p.1)).length
def cnt (q : Nat) (done : List Nat) : Nat := (done.filter fun x => decide (q ≤ x)).length
def cur (q : Nat) (ms : Ms) (done : List Nat) : Ms := ms.filter fun p => !(decide (p.1 ∈ done) && decide (q ≤ p.1))
theorem cur_nil (q : Nat) (ms : Ms) : cur q ms [] = ms := by simp [cur]
theorem cur_skip {q k : Nat} (ms : Ms) (done : List Nat) (h : ¬ q ≤ k) : cur q ms (done ++ [k]) = cur q ms done := by
  refine List.filter_congr fun p hp => ?_
  by_cases h1 : q ≤ p.1
  · have : p.1 ≠ k := fun e => h (e ▸ h1)
    simp [h1, this]
  · simp [h1]
theorem cur_del {q k : Nat} {ms : Ms} (hn : (keysOf ms).Nodup) (done : List Nat) (h : q ≤ k) : delR k (cur q ms done) = cur q ms (done ++ [k]) := by
  have hc : (keysOf (cur q ms done)).Nodup := keys_filter _ hn
  rw [delR_filter k hc]
  unfold cur
  rw [List.filter_filter]
  refine List.filter_congr fun p hp => ?_
  by_cases h1 : p.1 = k
  · simp [h1, h]
  · simp [h1]
theorem cur_end {q : Nat} {ms : Ms} {done : List Nat} (h : ∀ p ∈ cur q ms done, p.1 ∈ done) : cur q ms done = keep q ms := by
  refine List.filter_congr fun p hp => ?_
  by_cases h1 : p.1 < q
  · have : ¬ q ≤ p.1 := by omega
    simp [h1, this]
  · have h2 : q ≤ p.1 := by omega
    by_cases h3 : p.1 ∈ done
    · simp [h1, h2, h3]
    · exact absurd (h p (List.mem_filter.2 ⟨hp, by simp [h3]⟩)) h3
theorem cur_sub {q : Nat} {ms : Ms} {done : List Nat} {p : Nat × H32} (h : p ∈ cur q ms done) : p ∈ ms := (List.mem_filter.1 h).1
theorem cnt_step (q : Nat) (done : List Nat) (k : Nat) : cnt q (done ++ [k]) = cnt q done + if q ≤ k then 1 else 0 := by
  unfold cnt; rw [List.filter_append]; split <;> rename_i h <;> simp [h]
theorem cnt_end {q : Nat} {ms : Ms} {done : List Nat} (hn : (keysOf ms).Nodup) (h1 : done.Nodup) (h2 : ∀ x ∈ done, x ∈ keysOf ms) (h3 : ∀ p ∈ ms, p.1 ∈ done) : cnt q done = beyond q ms := by
  have hp : done.Perm (keysOf ms) := (List.perm_ext_iff_of_nodup h1 hn).2 fun x => ⟨h2 x, fun hx => by
    obtain ⟨p, hp, rfl⟩ := List.mem_map.1 hx
    exact h3 p hp⟩
  unfold cnt beyond
  rw [(hp.filter _).length_eq, keysOf, List.filter_map, List.length_map]
  rfl
theorem cnt_le (q : Nat) {ms : Ms} {done : List Nat} (h1 : done.Nodup) (h2 : ∀ x ∈ done, x ∈ keysOf ms) : cnt q done ≤ ms.length := by
  have := len_le_of_sub h1 h2
  rw [keys_len] at this
  exact Nat.le_trans (List.length_filter_le ..) this
theorem TC.mapNodup {C : Ctx} {Q : EQ} {env : Env} {L : List Assn} {c : Code} {κ α : Type} [DecidableEq κ] {enc : κ → Value} {encv : α → Value} {ms : List (κ × α)} {b : Nat} (hb : Has C L (MapA b enc encv ms)) (h : (keysOf ms).Nodup → TC C c Q env L) : TC C c Q env L :=
  fun a w ha hw => by
    obtain ⟨es, clock, _, _, _, _, hn⟩ := hb w hw
    exact h hn a w ha hw
section
variable {C : Ctx} {Q : EQ} {env : Env} {ops : Array Oper} {l : List Oper} {κ α : Type} [DecidableEq κ] {enc : κ → Value} {encv : α → Value} {ms : List (κ × α)} {b it : Nat} {done : List κ}
theorem TL.endI {L1 L2 : List Assn} (h : TL C ops Q l env (L1 ++ MapA b enc encv ms :: L2)) : TL C ops Q l env (L1 ++ MapI b it enc encv ms done :: L2) := fun a w ha hw => h a w ha hw.endI
theorem TL.endI0 {R : List Assn} (h : TL C ops Q l env (MapA b enc encv ms :: R)) : TL C ops Q l env (MapI b it enc encv ms done :: R) := TL.endI (L1 := []) h
theorem TL.endI1 {B0 : Assn} {R : List Assn} (h : TL C ops Q l env (B0 :: MapA b enc encv ms :: R)) : TL C ops Q l env (B0 :: MapI b it enc encv ms done :: R) := TL.endI (L1 := [B0]) h
theorem TL.endI2 {B0 B1 : Assn} {R : List Assn} (h : TL C ops Q l env (B0 :: B1 :: MapA b enc encv ms :: R)) : TL C ops Q l env (B0 :: B1 :: MapI b it enc encv ms done :: R) := TL.endI (L1 := [B0, B1]) h
theorem TL.endI3 {B0 B1 B2 : Assn} {R : List Assn} (h : TL C ops Q l env (B0 :: B1 :: B2 :: MapA b enc encv ms :: R)) : TL C ops Q l env (B0 :: B1 :: B2 :: MapI b it enc encv ms done :: R) := TL.endI (L1 := [B0, B1, B2]) h
theorem TL.endI4 {B0 B1 B2 B3 : Assn} {R : List Assn} (h : TL C ops Q l env (B0 :: B1 :: B2 :: B3 :: MapA b enc encv ms :: R)) : TL C ops Q l env (B0 :: B1 :: B2 :: B3 :: MapI b it enc encv ms done :: R) := TL.endI (L1 := [B0, B1, B2, B3]) h
theorem TL.endI5 {B0 B1 B2 B3 B4 : Assn} {R : List Assn} (h : TL C ops Q l env (B0 :: B1 :: B2 :: B3 :: B4 :: MapA b enc encv ms :: R)) : TL C ops Q l env (B0 :: B1 :: B2 :: B3 :: B4 :: MapI b it enc encv ms done :: R) := TL.endI (L1 := [B0, B1, B2, B3, B4]) h
end
end Go.E
namespace Go.E
/-- A volume cut to q blocks. -/
noncomputable def resizeM (n : Nat) (ms : Ms) (q : Nat) : Nat × Nat × Ms :=
  if ¬ (1 ≤ q ∧ q ≤ 4294967296) then (1, n, ms) else if 256 < beyond q ms then (3, n, ms) else (0, q, keep q ms)
theorem resizeM_bad {n : Nat} {ms : Ms} {q : Nat} (h : ¬ (1 ≤ q ∧ q ≤ 4294967296)) : resizeM n ms q = (1, n, ms) := by unfold resizeM; rw [if_pos h]
theorem resizeM_far {n : Nat} {ms : Ms} {q : Nat} (h : 1 ≤ q ∧ q ≤ 4294967296) (h2 : 256 < beyond q ms) : resizeM n ms q = (3, n, ms) := by
  unfold resizeM; rw [if_neg (fun f => f h), if_pos h2]
theorem resizeM_ok {n : Nat} {ms : Ms} {q : Nat} (h : 1 ≤ q ∧ q ≤ 4294967296) (h2 : ¬ 256 < beyond q ms) : resizeM n ms q = (0, q, keep q ms) := by
  unfold resizeM; rw [if_neg (fun f => f h), if_neg h2]
/-- What a volume holds at this index. -/
def getM (ms : Ms) (x : Nat) : H32 := (look x ms).getD zeroH
noncomputable def readM (n : Nat) (ms : Ms) (xs : List Nat) : Nat × List H32 := if asked xs n ≠ 0 then (asked xs n, []) else (0, xs.map (getM ms))
theorem readM_bad {n : Nat} {ms : Ms} {xs : List Nat} (h : asked xs n ≠ 0) : readM n ms xs = (asked xs n, []) := by unfold readM; rw [if_pos h]
theorem readM_ok {n : Nat} {ms : Ms} {xs : List Nat} (h : asked xs n = 0) : readM n ms xs = (0, xs.map (getM ms)) := by unfold readM; rw [if_neg (fun f => f h)]
theorem read_step (ms : Ms) (xs : List Nat) (k : Nat) (h : k < xs.length) : hcs ((xs.take k).map (getM ms)) ++ hvl (getM ms (xs.getD k 0)) = hcs ((xs.take (k + 1)).map (getM ms)) := by
  rw [List.take_succ_eq_append_getElem h, List.map_append, hcs_append]
  simp [hcs, List.getD, h]
end Go.E
namespace Go.E
theorem Qt.makeFuncL {C : Ctx} {env : Env} {L : List Assn} {dst : Option Tmp} {ty : TypeId} {pos : String} {after : Array Edge} {guard : Option (Nat × Bool)} {fn : Fn} {first captured : Array Operand} {fs cs : List Value} (h1 : first.toList.map env.ev = fs) (h2 : captured.toList.map env.ev = cs) :
    Qt C L ⟨dst, .makeFunc fn first captured, ty, pos, after, guard⟩ env (.func fn fs.toArray cs.toArray) := Qt.makeFunc (by rw [← h1]; apply Array.ext'; simp) (by rw [← h2]; apply Array.ext'; simp)
theorem fold_set (o : Nat) (ho : o = 0) : ∀ (l p s : List Value), l.length = s.length → (l.zipIdx p.length).foldl (fun (cs : Array Value) (q : Value × Nat) => cs.setIfInBounds (o + q.2) q.1) (p ++ s).toArray = (p ++ l).toArray
  | [], p, s, h => by
    have : s = [] := List.eq_nil_of_length_eq_zero (by simpa using h.symm)
    subst this; rfl
  | c :: l, p, s, h => by
    subst ho
    match s, h with
    | d :: s, h =>
      have hs : (p ++ d :: s).toArray.setIfInBounds (0 + p.length) c = ((p ++ [c]) ++ s).toArray := by
        simp
      rw [List.zipIdx_cons, List.foldl_cons]
      dsimp only
      rw [hs]
      have ih := fold_set 0 rfl l (p ++ [c]) s (by simpa using h)
      rw [List.length_append] at ih
      simp only [List.length_cons, List.length_nil] at ih
      refine (show _ = _ from ih).trans ?_
      simp
def elemB (P : Program) (e : TypeId) (sz bytes : Nat) : Bool := match P.info? e with
  | some i => match i.zero with
    | some z => i.size == sz && (i.bytes == bytes && (z.cells.size == sz && decide (0 < sz)))
    | none => false
  | none => false
theorem elemT_of {P : Program} {e : TypeId} {sz bytes : Nat} (h : elemB P e sz bytes = true) : elemT P e sz bytes := by
  unfold elemB at h
  cases hi : P.info? e with
  | none => rw [hi] at h; cases h
  | some i =>
    rw [hi] at h
    dsimp only at h
    cases hz : i.zero with
    | none => rw [hz] at h; cases h
    | some z =>
      rw [hz] at h
      simp only [Bool.and_eq_true, beq_iff_eq, decide_eq_true_eq] at h
      exact ⟨i, z, hi, hz, h.1, h.2.1, h.2.2.1, h.2.2.2⟩
theorem fill1 {zs : Array Value} {v : Value} {sz : Nat} (h : zs.size = sz) (hv : v.cells.size = sz) : Instr.fill (fun i => some (i * sz, sz)) zs [(0, v)] = some v.cells := by
  have hf : (v.cells.zipIdx.foldl (fun cs (c, j) => cs.setIfInBounds (0 * sz + j) c) zs) = v.cells := by
    have h1 := fold_set (0 * sz) (Nat.zero_mul sz) v.cells.toList [] zs.toList (by simp [h, hv])
    simp only [List.nil_append, List.length_nil, Array.toArray_toList] at h1
    rw [← Array.foldl_toList, Array.toList_zipIdx]
    exact h1
  simp only [Instr.fill, hf]
  rw [if_neg (by simp [h, hv])]
theorem OpV.slice1 {C : Ctx} {env : Env} {L : List Assn} {dst : Option Tmp} {ty : TypeId} {pos : String} {after : Array Edge} {guard : Option (Nat × Bool)} {x : Operand} {T e : TypeId} {v : Value} {sz bytes : Nat} {K : Value → List Assn → Prop} (ht : C.P.underlying T = some (.slice e)) (he : elemT C.P e sz bytes) (hle : sz ≤ 16777216) (hx : env.ev x = v) (hl : (vl v).length = sz)
    (h : ∀ b, K (.slice (some ⟨b, 0, none⟩) 1 1) (Blk b e (vl v) :: L)) : OpV C ⟨dst, .buildSlice T 1 #[(0, x)], ty, pos, after, guard⟩ env L K := by
  obtain ⟨i, z, h1, h2, h3, h4, h5, h6⟩ := he
  have hc : v.cells = (vl v).toArray := by rw [← vl_cells]
  refine OpV.buildSliceR (sz := sz) (cs := vl v) ht (by rw [h1]; exact congrArg some h3) (by omega) ⟨z, by simp [zero1, h1, h2], ?_⟩ h
  have : ((#[(0, x)] : Array (Nat × Operand)).map fun (i, x) => (i, env.ev x)).toList = [(0, v)] := by simp [hx]
  rw [this, ← hc]
  exact fill1 (by simp) (by rw [hc]; simpa using hl)
theorem z_read (ms : Ms) (x : Nat) : valOr hv (hv zeroH) (look x ms) = hv (getM ms x) := by
  unfold getM; cases look x ms <;> rfl
end Go.E
