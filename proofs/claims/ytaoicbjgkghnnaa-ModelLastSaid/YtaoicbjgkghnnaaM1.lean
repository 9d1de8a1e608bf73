/-
  Plain words and laws for the volume's statements: lists of indices, errors as numbers. Plain words and laws for the volume's statements: what a volume's calls do to a list of pairs. Maps whose keys are numbers of 64 bits. Plain laws for what deletes and counts while it goes through a map. Equality of hashes and blocks.
-/
import Derived.Test.YtaoicbjgkghnnaaE2
import Derived.ChangeKeysEq
import Derived.Laws.StructEq
namespace Go.E
def u64s (xs : List Nat) : List Value := xs.map fun (x : Nat) => .int .u64 (x : Int)
theorem u64s_get {xs : List Nat} {i k : Nat} (h : i < xs.length) (hk : k = i) : (u64s xs)[k]? = some (.int .u64 ((xs.getD i 0 : Nat) : Int)) := by
  subst hk; simp [u64s, List.getElem?_eq_getElem h, List.getD]
theorem u64s_len (xs : List Nat) : (u64s xs).length = xs.length := by simp [u64s]
theorem u64s_drop (xs : List Nat) (k : Nat) : (u64s xs).drop k = u64s (xs.drop k) := by simp [u64s]
theorem drop_getD (xs : List Nat) (j k : Nat) : (xs.drop j).getD k 0 = xs.getD (k + j) 0 := by simp [List.getD, Nat.add_comm]
def errv (T : Nat) (k : Nat) : Value := if k = 0 then .nilIface else .iface T (.int .i64 (k : Int))
theorem errv_pos {T k : Nat} (h : k ≠ 0) : errv T k = .iface T (.int .i64 (k : Int)) := if_neg h

def Rising (xs : List Nat) : Prop := ∀ i, i + 1 < xs.length → xs.getD i 0 < xs.getD (i + 1) 0
open Classical in
noncomputable def asked (xs : List Nat) (n : Nat) : Nat :=
  if 256 < xs.length then 3 else if xs.length = 0 then 2
  else if Rising xs then (if n ≤ xs.getD (xs.length - 1) 0 then 1 else 0) else 2
theorem asked_large {xs : List Nat} {n : Nat} (h : 256 < xs.length) : asked xs n = 3 := by simp [asked, h]
theorem asked_none {xs : List Nat} {n : Nat} (h : xs.length = 0) : asked xs n = 2 := by simp [asked, h]
theorem asked_fall {xs : List Nat} {n i : Nat} (h1 : ¬ 256 < xs.length) (hi : i + 1 < xs.length) (h : xs.getD (i + 1) 0 ≤ xs.getD i 0) : asked xs n = 2 := by
  have hr : ¬ Rising xs := fun hr => by have := hr i hi; omega
  unfold asked
  rw [if_neg h1, if_neg (by omega), if_neg hr]
theorem asked_last {xs : List Nat} {n : Nat} (h1 : ¬ 256 < xs.length) (h2 : xs.length ≠ 0) (hr : Rising xs) (h : n ≤ xs.getD (xs.length - 1) 0) : asked xs n = 1 := by
  unfold asked
  rw [if_neg h1, if_neg h2, if_pos hr, if_pos h]
theorem asked_ok {xs : List Nat} {n : Nat} (h1 : ¬ 256 < xs.length) (h2 : xs.length ≠ 0) (hr : Rising xs) (h : ¬ n ≤ xs.getD (xs.length - 1) 0) : asked xs n = 0 := by
  unfold asked
  rw [if_neg h1, if_neg h2, if_pos hr, if_neg h]
end Go.E
namespace Go.E
abbrev Ms := List (Nat × H32)
def encU (x : Nat) : Value := .int .u64 (x : Int)
theorem encU_inj {a b : Nat} (h : encU a = encU b) : a = b := by
  injection h with _ h; omega
def spanned (first : Nat) (many : Int) (n : Nat) : Nat :=
  if 256 < many then 3 else if many < 1 then 2 else if n ≤ first ∨ n - first < many.toNat then 1 else 0
theorem spanned_1 {first n : Nat} {many : Int} (h1 : ¬ 256 < many) (h2 : ¬ many < 1) (h : n ≤ first ∨ n - first < many.toNat) : spanned first many n = 1 := by
  unfold spanned; rw [if_neg h1, if_neg h2, if_pos h]
theorem spanned_0 {first n : Nat} {many : Int} (h1 : ¬ 256 < many) (h2 : ¬ many < 1) (h3 : ¬ n ≤ first) (h4 : ¬ n - first < many.toNat) : spanned first many n = 0 := by
  unfold spanned; rw [if_neg h1, if_neg h2, if_neg (by omega)]
/-- The blocks laid. -/
def lay (ms : Ms) (xs : List Nat) (bs : List H32) : Ms := (xs.zip bs).foldl (fun m p => updR p.1 p.2 m) ms
theorem lay_take (ms : Ms) (xs : List Nat) (bs : List H32) (k : Nat) (h1 : k < xs.length) (h2 : k < bs.length) :
    lay ms (xs.take (k + 1)) (bs.take (k + 1)) = updR (xs.getD k 0) (bs.getD k zeroH) (lay ms (xs.take k) (bs.take k)) := by
  unfold lay
  have hz : (xs.take (k + 1)).zip (bs.take (k + 1)) = (xs.take k).zip (bs.take k) ++ [(xs.getD k 0, bs.getD k zeroH)] := by
    rw [List.take_succ_eq_append_getElem h1, List.take_succ_eq_append_getElem h2, List.zip_append (by simp; omega)]
    simp [List.getD, h1, h2]
  rw [hz, List.foldl_append]
  rfl
theorem lay_all (ms : Ms) (xs : List Nat) (bs : List H32) (k : Nat) (h1 : xs.length ≤ k) (h2 : bs.length ≤ k) : lay ms (xs.take k) (bs.take k) = lay ms xs bs := by
  rw [List.take_of_length_le h1, List.take_of_length_le h2]
def cut (ms : Ms) (xs : List Nat) : Ms := xs.foldl (fun m x => delR x m) ms
noncomputable def writeM (n : Nat) (ms : Ms) (xs : List Nat) (bs : List H32) : Nat × Ms :=

  if asked xs n ≠ 0 then (asked xs n, ms) else if xs.length ≠ bs.length then (2, ms) else (0, lay ms xs bs)
theorem writeM_bad {n : Nat} {ms : Ms} {xs : List Nat} {bs : List H32} (h : asked xs n ≠ 0) : writeM n ms xs bs = (asked xs n, ms) := by simp [writeM, h]
theorem writeM_form {n : Nat} {ms : Ms} {xs : List Nat} {bs : List H32} (h : asked xs n = 0) (h2 : xs.length ≠ bs.length) : writeM n ms xs bs = (2, ms) := by simp [writeM, h, h2]
theorem writeM_ok {n : Nat} {ms : Ms} {xs : List Nat} {bs : List H32} (h : asked xs n = 0) (h2 : xs.length = bs.length) : writeM n ms xs bs = (0, lay ms xs bs) := by simp [writeM, h, h2]
theorem hcs_at {l : List H32} {i k : Nat} (h : i < l.length) (hk : k = i * 32) : ∀ j v, (hvl (l.getD i zeroH))[j]? = some v → (hcs l)[k + j]? = some v := by
  subst hk
  exact hcs_get l i _ (by simp [List.getD, h])
end Go.E
namespace Go.E
theorem equalIn_int {P : Program} {w : World} {T : TypeId} {k k' : IntKind} {a b : Int} (ht : P.underlying T = some (.int k')) (d : Nat) : (Op.equalIn (d + 1) T (.int k a) (.int k b)).run P w = .ok (a == b) w := by
  simp [Op.equalIn, run_underlying ht]
theorem checkKey_int {P : Program} {w : World} {T : TypeId} {k k' : IntKind} {a : Int} {e : Bool} (ht : P.underlying T = some (.int k')) (d : Nat) : (Instr.checkKey e (d + 1) T (.int k a)).run P w = .ok () w := by
  simp [Instr.checkKey, run_underlying ht]
theorem keyU {P : Program} {T : TypeId} (ht : P.underlying T = some (.int .u64)) : KeyLaw P T encU where
  desc := ⟨_, ht, .inl fun a b => by
    simp only [Instr.sameNow, encU, if_true]
    congr 1
    rw [Bool.eq_iff_iff]; simp; omega⟩
  eq a b w := by
    have h := equalIn_int (P := P) (w := w) (k := .u64) (a := (a : Int)) (b := (b : Int)) ht 9999
    refine (show _ = _ from h).trans ?_
    congr 1
    rw [Bool.eq_iff_iff]; simp; omega
  check e a w := checkKey_int ht 9999
  bits a := by
    have : Instr.sameBits 10000 (.int .u64 (a : Int)) (.int .u64 (a : Int)) = (IntKind.u64 == IntKind.u64 && (a : Int) == (a : Int)) := by
      unfold Instr.sameBits; rfl
    simp [encU, this]
end Go.E
namespace Go.E
set_option linter.unusedSectionVars false
set_option linter.unusedVariables false
section
variable {κ α : Type} [DecidableEq κ]
theorem len_le_of_sub : ∀ {l m : List κ}, l.Nodup → (∀ x ∈ l, x ∈ m) → l.length ≤ m.length
  | [], _, _, _ => Nat.zero_le _
  | a :: l, m, hn, hs => by
    rw [List.nodup_cons] at hn
    have ha := hs a (List.mem_cons_self ..)
    have h := len_le_of_sub (m := m.erase a) hn.2 fun x hx => by
      have hne : x ≠ a := fun e => hn.1 (e ▸ hx)
      exact (List.mem_erase_of_ne hne).2 (hs x (List.mem_cons_of_mem _ hx))
    have h2 := List.length_erase_of_mem ha
    have h3 := List.length_pos_of_mem ha
    simp only [List.length_cons]; omega
theorem mem_keys {ms : List (κ × α)} {p : κ × α} (h : p ∈ ms) : p.1 ∈ keysOf ms := List.mem_map_of_mem h
theorem keys_len (ms : List (κ × α)) : (keysOf ms).length = ms.length := by simp [keysOf]
theorem done_step {ms : List (κ × α)} {done : List κ} {k : κ} {a : α} (h1 : done.Nodup) (h2 : ∀ x ∈ done, x ∈ keysOf ms) (hm : (k, a) ∈ ms) (hk : k ∉ done) :
    ((done ++ [k]).Nodup ∧ ∀ x ∈ done ++ [k], x ∈ keysOf ms) ∧ ms.length - (done ++ [k]).length < ms.length - done.length := by
  have hn : (done ++ [k]).Nodup := List.nodup_append.2 ⟨h1, by simp, fun x hx y hy e => by simp at hy; subst hy e; exact hk hx⟩
  have hs : ∀ x ∈ done ++ [k], x ∈ keysOf ms := fun x hx => by
    rcases List.mem_append.1 hx with hx | hx
    · exact h2 x hx
    · simp at hx; subst hx; exact mem_keys hm
  have := len_le_of_sub hn hs
  rw [keys_len] at this
  simp only [List.length_append, List.length_cons, List.length_nil] at *
  exact ⟨⟨hn, hs⟩, by omega⟩
theorem delR_filter (k : κ) : ∀ {ms : List (κ × α)}, (keysOf ms).Nodup → delR k ms = ms.filter (fun p => decide (p.1 ≠ k))
  | [], _ => rfl
  | p :: ms, h => by
    simp only [keysOf, List.map_cons, List.nodup_cons] at h
    have ih := delR_filter k (ms := ms) h.2
    simp only [delR]
    by_cases hk : k = p.1
    · subst hk
      rw [if_pos rfl]
      simp only [ne_eq, not_true_eq_false, decide_false, Bool.false_eq_true, not_false_eq_true, List.filter_cons_of_neg]
      rw [List.filter_eq_self.2]
      intro q hq
      simp only [decide_eq_true_eq]
      exact fun e => h.1 (e ▸ List.mem_map_of_mem hq)
    · rw [if_neg hk]
      have hk' : p.1 ≠ k := fun e => hk e.symm
      simp [hk', ih]
theorem keys_filter {ms : List (κ × α)} (f : κ × α → Bool) (h : (keysOf ms).Nodup) : (keysOf (ms.filter f)).Nodup :=
  h.sublist (List.Sublist.map _ (List.filter_sublist ..))
end
def keep (q : Nat) (ms : Ms) : Ms := ms.filter fun p => decide (p.1 < q)
def beyond (q : Nat) (ms : Ms) : Nat := (ms.filter fun p => decide (q ≤ p.1)).length
def cnt (q : Nat) (done : List Nat) : Nat := (done.filter fun x => decide (q ≤ x)).length
def cur (q : Nat) (ms : Ms) (done : List Nat) : Ms := ms.filter fun p => !(decide (p.1 ∈ done) && decide (q ≤ p.1))
theorem cur_nil (q : Nat) (ms : Ms) : cur q ms [] = ms := by simp [cur]
theorem cur_skip {q k : Nat} (ms : Ms) (done : List Nat) (h : ¬ q ≤ k) : cur q ms (done ++ [k]) = cur q ms done := by
  refine List.filter_congr fun p hp => ?_
  by_cases h1 : q ≤ p.1
  · have : p.1 ≠ k := fun e => h (e ▸ h1)
    simp [h1, this]
  · simp [h1]
theorem cur_del {q k : Nat} {ms : Ms} (hn : (keysOf ms).Nodup) (done : List Nat) (h : q ≤ k) : delR k (cur q ms done) = cur q ms (done ++ [k]) := by
  have hc : (keysOf (cur q ms done)).Nodup := keys_filter _ hn
  rw [delR_filter k hc]
  unfold cur
  rw [List.filter_filter]
  refine List.filter_congr fun p hp => ?_
  by_cases h1 : p.1 = k
  · simp [h1, h]
  · simp [h1]
theorem cur_end {q : Nat} {ms : Ms} {done : List Nat} (h : ∀ p ∈ cur q ms done, p.1 ∈ done) : cur q ms done = keep q ms := by
  refine List.filter_congr fun p hp => ?_
  by_cases h1 : p.1 < q
  · have : ¬ q ≤ p.1 := by omega
    simp [h1, this]
  · have h2 : q ≤ p.1 := by omega
    by_cases h3 : p.1 ∈ done
    · simp [h1, h2, h3]
    · exact absurd (h p (List.mem_filter.2 ⟨hp, by simp [h3]⟩)) h3
theorem cur_sub {q : Nat} {ms : Ms} {done : List Nat} {p : Nat × H32} (h : p ∈ cur q ms done) : p ∈ ms := (List.mem_filter.1 h).1
theorem cnt_step (q : Nat) (done : List Nat) (k : Nat) : cnt q (done ++ [k]) = cnt q done + if q ≤ k then 1 else 0 := by
  unfold cnt; rw [List.filter_append]; split <;> rename_i h <;> simp [h]
theorem cnt_end {q : Nat} {ms : Ms} {done : List Nat} (hn : (keysOf ms).Nodup) (h1 : done.Nodup) (h2 : ∀ x ∈ done, x ∈ keysOf ms) (h3 : ∀ p ∈ ms, p.1 ∈ done) : cnt q done = beyond q ms := by
  have hp : done.Perm (keysOf ms) := (List.perm_ext_iff_of_nodup h1 hn).2 fun x => ⟨h2 x, fun hx => by
    obtain ⟨p, hp, rfl⟩ := List.mem_map.1 hx
    exact h3 p hp⟩
  unfold cnt beyond
  rw [(hp.filter _).length_eq, keysOf, List.filter_map, List.length_map]
  rfl
theorem cnt_le (q : Nat) {ms : Ms} {done : List Nat} (h1 : done.Nodup) (h2 : ∀ x ∈ done, x ∈ keysOf ms) : cnt q done ≤ ms.length := by
  have := len_le_of_sub h1 h2
  rw [keys_len] at this
  exact Nat.le_trans (List.length_filter_le ..) this
theorem TC.mapNodup {C : Ctx} {Q : EQ} {env : Env} {L : List Assn} {c : Code} {κ α : Type} [DecidableEq κ] {enc : κ → Value} {encv : α → Value} {ms : List (κ × α)} {b : Nat} (hb : Has C L (MapA b enc encv ms)) (h : (keysOf ms).Nodup → TC C c Q env L) : TC C c Q env L :=
  fun a w ha hw => by
    obtain ⟨es, clock, _, _, _, _, hn⟩ := hb w hw
    exact h hn a w ha hw
section
variable {C : Ctx} {Q : EQ} {env : Env} {ops : Array Oper} {l : List Oper} {κ α : Type} [DecidableEq κ] {enc : κ → Value} {encv : α → Value} {ms : List (κ × α)} {b it : Nat} {done : List κ}
theorem TL.endI {L1 L2 : List Assn} (h : TL C ops Q l env (L1 ++ MapA b enc encv ms :: L2)) : TL C ops Q l env (L1 ++ MapI b it enc encv ms done :: L2) := fun a w ha hw => h a w ha hw.endI
theorem TL.endI0 {R : List Assn} (h : TL C ops Q l env (MapA b enc encv ms :: R)) : TL C ops Q l env (MapI b it enc encv ms done :: R) := TL.endI (L1 := []) h
theorem TL.endI1 {B0 : Assn} {R : List Assn} (h : TL C ops Q l env (B0 :: MapA b enc encv ms :: R)) : TL C ops Q l env (B0 :: MapI b it enc encv ms done :: R) := TL.endI (L1 := [B0]) h
end
end Go.E
namespace Go.E
/-- A volume cut to q blocks. -/
noncomputable def resizeM (n : Nat) (ms : Ms) (q : Nat) : Nat × Nat × Ms :=
  if ¬ (1 ≤ q ∧ q ≤ 4294967296) then (1, n, ms) else if 256 < beyond q ms then (3, n, ms) else (0, q, keep q ms)
theorem resizeM_bad {n : Nat} {ms : Ms} {q : Nat} (h : ¬ (1 ≤ q ∧ q ≤ 4294967296)) : resizeM n ms q = (1, n, ms) := by unfold resizeM; rw [if_pos h]
theorem resizeM_far {n : Nat} {ms : Ms} {q : Nat} (h : 1 ≤ q ∧ q ≤ 4294967296) (h2 : 256 < beyond q ms) : resizeM n ms q = (3, n, ms) := by
  unfold resizeM; rw [if_neg (fun f => f h), if_pos h2]
theorem resizeM_ok {n : Nat} {ms : Ms} {q : Nat} (h : 1 ≤ q ∧ q ≤ 4294967296) (h2 : ¬ 256 < beyond q ms) : resizeM n ms q = (0, q, keep q ms) := by
  unfold resizeM; rw [if_neg (fun f => f h), if_neg h2]
/-- What a volume holds at this index. -/
def getM (ms : Ms) (x : Nat) : H32 := (look x ms).getD zeroH
noncomputable def readM (n : Nat) (ms : Ms) (xs : List Nat) : Nat × List H32 := if asked xs n ≠ 0 then (asked xs n, []) else (0, xs.map (getM ms))
theorem readM_bad {n : Nat} {ms : Ms} {xs : List Nat} (h : asked xs n ≠ 0) : readM n ms xs = (asked xs n, []) := by unfold readM; rw [if_pos h]
theorem readM_ok {n : Nat} {ms : Ms} {xs : List Nat} (h : asked xs n = 0) : readM n ms xs = (0, xs.map (getM ms)) := by unfold readM; rw [if_neg (fun f => f h)]
theorem read_step (ms : Ms) (xs : List Nat) (k : Nat) (h : k < xs.length) : hcs ((xs.take k).map (getM ms)) ++ hvl (getM ms (xs.getD k 0)) = hcs ((xs.take (k + 1)).map (getM ms)) := by
  rw [List.take_succ_eq_append_getElem h, List.map_append, hcs_append]
  simp [hcs, List.getD, h]
end Go.E
namespace Go.E
theorem Qt.makeFuncL {C : Ctx} {env : Env} {L : List Assn} {dst : Option Tmp} {ty : TypeId} {pos : String} {after : Array Edge} {guard : Option (Nat × Bool)} {fn : Fn} {first captured : Array Operand} {fs cs : List Value} (h1 : first.toList.map env.ev = fs) (h2 : captured.toList.map env.ev = cs) :
    Qt C L ⟨dst, .makeFunc fn first captured, ty, pos, after, guard⟩ env (.func fn fs.toArray cs.toArray) := Qt.makeFunc (by rw [← h1]; apply Array.ext'; simp) (by rw [← h2]; apply Array.ext'; simp)
theorem fold_set (o : Nat) (ho : o = 0) : ∀ (l p s : List Value), l.length = s.length → (l.zipIdx p.length).foldl (fun (cs : Array Value) (q : Value × Nat) => cs.setIfInBounds (o + q.2) q.1) (p ++ s).toArray = (p ++ l).toArray
  | [], p, s, h => by
    have : s = [] := List.eq_nil_of_length_eq_zero (by simpa using h.symm)
    subst this; rfl
  | c :: l, p, s, h => by
    subst ho
    match s, h with
    | d :: s, h =>
      have hs : (p ++ d :: s).toArray.setIfInBounds (0 + p.length) c = ((p ++ [c]) ++ s).toArray := by
        simp
      rw [List.zipIdx_cons, List.foldl_cons]
      dsimp only
      rw [hs]
      have ih := fold_set 0 rfl l (p ++ [c]) s (by simpa using h)
      rw [List.length_append] at ih
      simp only [List.length_cons, List.length_nil] at ih
      refine (show _ = _ from ih).trans ?_
      simp
def elemB (P : Program) (e : TypeId) (sz bytes : Nat) : Bool := match P.info? e with
  | some i => match i.zero with
    | some z => i.size == sz && (i.bytes == bytes && (z.cells.size == sz && decide (0 < sz)))
    | none => false
  | none => false
theorem elemT_of {P : Program} {e : TypeId} {sz bytes : Nat} (h : elemB P e sz bytes = true) : elemT P e sz bytes := by
  unfold elemB at h
  cases hi : P.info? e with
  | none => rw [hi] at h; cases h
  | some i =>
    rw [hi] at h
    dsimp only at h
    cases hz : i.zero with
    | none => rw [hz] at h; cases h
    | some z =>
      rw [hz] at h
      simp only [Bool.and_eq_true, beq_iff_eq, decide_eq_true_eq] at h
      exact ⟨i, z, hi, hz, h.1, h.2.1, h.2.2.1, h.2.2.2⟩
theorem fill1 {zs : Array Value} {v : Value} {sz : Nat} (h : zs.size = sz) (hv : v.cells.size = sz) : Instr.fill (fun i => some (i * sz, sz)) zs [(0, v)] = some v.cells := by
  have hf : (v.cells.zipIdx.foldl (fun cs (c, j) => cs.setIfInBounds (0 * sz + j) c) zs) = v.cells := by
    have h1 := fold_set (0 * sz) (Nat.zero_mul sz) v.cells.toList [] zs.toList (by simp [h, hv])
    simp only [List.nil_append, List.length_nil, Array.toArray_toList] at h1
    rw [← Array.foldl_toList, Array.toList_zipIdx]
    exact h1
  simp only [Instr.fill, hf]
  rw [if_neg (by simp [h, hv])]
theorem OpV.slice1 {C : Ctx} {env : Env} {L : List Assn} {dst : Option Tmp} {ty : TypeId} {pos : String} {after : Array Edge} {guard : Option (Nat × Bool)} {x : Operand} {T e : TypeId} {v : Value} {sz bytes : Nat} {K : Value → List Assn → Prop} (ht : C.P.underlying T = some (.slice e)) (he : elemT C.P e sz bytes) (hle : sz ≤ 16777216) (hx : env.ev x = v) (hl : (vl v).length = sz)
    (h : ∀ b, K (.slice (some ⟨b, 0, none⟩) 1 1) (Blk b e (vl v) :: L)) : OpV C ⟨dst, .buildSlice T 1 #[(0, x)], ty, pos, after, guard⟩ env L K := by
  obtain ⟨i, z, h1, h2, h3, h4, h5, h6⟩ := he
  have hc : v.cells = (vl v).toArray := by rw [← vl_cells]
  refine OpV.buildSliceR (sz := sz) (cs := vl v) ht (by rw [h1]; exact congrArg some h3) (by omega) ⟨z, by simp [zero1, h1, h2], ?_⟩ h
  have : ((#[(0, x)] : Array (Nat × Operand)).map fun (i, x) => (i, env.ev x)).toList = [(0, v)] := by simp [hx]
  rw [this, ← hc]
  exact fill1 (by simp) (by rw [hc]; simpa using hl)
theorem z_read (ms : Ms) (x : Nat) : valOr hv (hv zeroH) (look x ms) = hv (getM ms x) := by
  unfold getM; cases look x ms <;> rfl
end Go.E
namespace Go.E
theorem bytesL_get {l : List UInt8} {i : Nat} (h : i < l.length) : (bytesL l).toArray[i]? = some (.int .u8 ((l.getD i 0).toNat : Int)) := by
  simp [bytesL, h, List.getD]
theorem run_eqItems_u8 {P : Program} {w : World} (d : Nat) {e : TypeId} (he : P.underlying e = some (.int .u8)) (xs ys : List UInt8) : ∀ is : List Nat, (∀ i ∈ is, i < xs.length ∧ i < ys.length) →
    (Op.eqItems (d + 1) e 1 (bytesL xs).toArray (bytesL ys).toArray is).run P w = .ok (is.all fun i => decide (xs.getD i 0 = ys.getD i 0)) w
  | [], _ => by simp [Op.eqItems]
  | i :: is, h => by
    have hp : P.plainKey e = true := by simp [Program.plainKey, he]
    have hi := h i (List.mem_cons_self ..)
    have p1 := run_part_plain (P := P) w hp (xs := (bytesL xs).toArray) (off := i * 1) (by rw [Nat.mul_one]; exact bytesL_get hi.1)
    have p2 := run_part_plain (P := P) w hp (xs := (bytesL ys).toArray) (off := i * 1) (by rw [Nat.mul_one]; exact bytesL_get hi.2)
    have p3 := equalIn_int (P := P) (w := w) (k := .u8) (a := ((xs.getD i 0).toNat : Int)) (b := ((ys.getD i 0).toNat : Int)) he d
    have ih := run_eqItems_u8 (w := w) d he xs ys is fun j hj => h j (List.mem_cons_of_mem _ hj)
    simp only [Op.eqItems, Sem.run_bind, p1, p2, p3, Result.andThen_ok, List.all_cons]
    by_cases hx : xs.getD i 0 = ys.getD i 0
    · simp only [hx, decide_true, Bool.true_and]
      simpa using ih
    · have hne : ¬ ((xs.getD i 0).toNat : Int) = ((ys.getD i 0).toNat : Int) := fun e => hx (UInt8.toNat_inj.1 (by omega))
      have hd : decide (xs.getD i 0 = ys.getD i 0) = false := decide_eq_false hx
      have hb : (((xs.getD i 0).toNat : Int) == ((ys.getD i 0).toNat : Int)) = false := by rw [beq_eq_false_iff_ne]; exact hne
      rw [hd, hb]
      rfl
theorem all_getD {xs ys : List UInt8} (h1 : xs.length = 32) (h2 : ys.length = 32) : ((List.range 32).all fun i => decide (xs.getD i 0 = ys.getD i 0)) = decide (xs = ys) := by
  rw [Bool.eq_iff_iff]
  simp only [List.all_eq_true, List.mem_range, decide_eq_true_eq]
  constructor
  · intro h
    refine List.ext_getElem (by omega) fun i h3 h4 => ?_
    have := h i (by omega)
    simpa [List.getD, h3, h4] using this
  · rintro rfl i _; rfl
theorem equalIn_hv {P : Program} {w : World} {T e : TypeId} {a b : H32} (ht : P.underlying T = some (.array 32 e)) (he : P.underlying e = some (.int .u8)) (hs : (P.info? e).map (·.size) = some 1) (d : Nat) :
    (Op.equalIn (d + 2) T (hv a) (hv b)).run P w = .ok (decide (a = b)) w := by
  obtain ⟨i, hi, h1⟩ := Option.map_eq_some_iff.1 hs
  have hc : P.cellsOf e = 1 := by simp [Program.cellsOf, hi, h1]
  have := run_eqItems_u8 (P := P) (w := w) d he a.1 b.1 (List.range 32) (fun i h => by rw [a.2, b.2]; simpa using h)
  rw [show hv a = .agg (bytesL a.1).toArray from rfl, show hv b = .agg (bytesL b.1).toArray from rfl, run_equalIn_array w (d + 1) _ _ ht hi, hc, this, all_getD a.2 b.2]
  congr 1
  rw [Bool.eq_iff_iff]; simp only [decide_eq_true_eq]
  exact ⟨Subtype.ext, fun h => h ▸ rfl⟩
section
variable {C : Ctx} {env : Env} {L : List Assn} {dst : Option Tmp} {ty ty2 : TypeId} {pos : String} {after : Array Edge} {guard : Option (Nat × Bool)} {x y : Operand} {T e : TypeId} {a b : H32}
theorem Qt.eqH (hm : C.P.eqGuardType C.P.depth T = false) (ht : C.P.underlying T = some (.array 32 e)) (he : C.P.underlying e = some (.int .u8)) (hs : (C.P.info? e).map (·.size) = some 1) (hx : env.ev x = hv a) (hy : env.ev y = hv b) : Qt C L ⟨dst, .binOp .eql T x y ty2, ty, pos, after, guard⟩ env (.bool (decide (a = b))) := fun w _ => by
  have h := equalIn_hv (P := C.P) (w := w) (a := a) (b := b) ht he hs 9998
  have h2 : (binOp .eql T (hv a) (hv b)).run C.P w = .ok (.bool (decide (a = b))) w := by
    rw [show hv a = .agg (bytesL a.1).toArray from rfl, show hv b = .agg (bytesL b.1).toArray from rfl] at h ⊢
    rw [run_eql_struct, h]; rfl
  have h3 : (eqGuard .eql T x y (hv a) (hv b)).run C.P w = .ok () w := run_eqGuard_agg w .eql T x y _ _ hm
  simp [execOp, hx, hy, h2, h3]
theorem Qt.neH (hm : C.P.eqGuardType C.P.depth T = false) (ht : C.P.underlying T = some (.array 32 e)) (he : C.P.underlying e = some (.int .u8)) (hs : (C.P.info? e).map (·.size) = some 1) (hx : env.ev x = hv a) (hy : env.ev y = hv b) : Qt C L ⟨dst, .binOp .neq T x y ty2, ty, pos, after, guard⟩ env (.bool (decide (a ≠ b))) := fun w _ => by
  have h := equalIn_hv (P := C.P) (w := w) (a := a) (b := b) ht he hs 9998
  have h2 : (binOp .neq T (hv a) (hv b)).run C.P w = .ok (.bool (decide (a ≠ b))) w := by
    rw [show hv a = .agg (bytesL a.1).toArray from rfl, show hv b = .agg (bytesL b.1).toArray from rfl] at h ⊢
    rw [run_neq_struct, h]; simp
  have h3 : (eqGuard .neq T x y (hv a) (hv b)).run C.P w = .ok () w := run_eqGuard_agg w .neq T x y _ _ hm
  simp [execOp, hx, hy, h2, h3]
end
theorem Ro.blk {w0 : World} {M : List Nat} {b : Nat} {T : TypeId} {cs : List Value} (h : Ro w0 M (Blk b T cs)) : Ro w0 M (SlA (some ⟨b, 0, none⟩) cs) :=
  ⟨fun j u hj => ⟨_, rfl, by rw [add_cell, cell_of_blk h.1]; simpa using hj⟩, fun k hk => by
    rw [SlA_fp] at hk
    obtain ⟨a, ha, rfl, _⟩ := mem_slfp hk
    injection ha with ha
    subst ha
    exact h.2 _ (by simp [Blk.fp])⟩
def oneH : H32 := ⟨1 :: List.replicate 31 0, by simp⟩
end Go.E
