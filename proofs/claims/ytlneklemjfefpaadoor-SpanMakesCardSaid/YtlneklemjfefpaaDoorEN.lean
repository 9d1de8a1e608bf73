/-
  The program logic, thirteenth part: a slice of one's own, opened to its block, and shut again.
-/
import Derived.Test.YtlneklemjfefpaaDoorEL
namespace Go.E
set_option linter.unusedVariables false
variable {C : Ctx} {Q : EQ} {env : Env}
theorem OwnA.blk {e : TypeId} {sz : Nat} {A : Option Addr} {n c : Nat} {xs : List Value} {w : World} (h : (OwnA e sz A n c xs).ok w) :
    (A = none ∧ n = 0 ∧ c = 0 ∧ xs = []) ∨ ∃ g cs, A = some ⟨g, 0, none⟩ ∧ (Blk g e cs).ok w ∧ cs.take (n * sz) = xs ∧ cs.length = c * sz ∧ n ≤ c ∧ c ≤ maxLen := by
  rcases h.2 with ⟨hv, hn⟩ | ⟨g, cap, cur, hv, hb, hg, hnc, hcm, hcs, ht⟩
  · injection hv with h1 h2 h3
    refine .inl ⟨h1, hn, h3, ?_⟩
    have := h.1
    rw [hn, Nat.zero_mul] at this
    exact List.length_eq_zero_iff.1 this
  · injection hv with h1 h2 h3
    subst h3
    refine .inr ⟨g, cur.toList, h1, ?_, ht, by simpa using hcs, hnc, hcm⟩
    show w.heap[g]? = some (.cells cur.toList.toArray e (0, 0))
    rw [Array.toArray_toList]; exact hg
theorem OwnA.of_blk {e : TypeId} {sz : Nat} {g n c : Nat} {cs : List Value} {w : World} (h : (Blk g e cs).ok w) (hl : cs.length = c * sz) (hn : n ≤ c) (hm : c ≤ maxLen) : (OwnA e sz (some ⟨g, 0, none⟩) n c (cs.take (n * sz))).ok w := by
  refine ⟨?_, .inr ⟨g, c, cs.toArray, rfl, Nat.zero_le _, h, hn, hm, by simpa using hl, by simp⟩⟩
  have : n * sz ≤ c * sz := Nat.mul_le_mul_right _ hn
  rw [List.length_take, hl]; exact Nat.min_eq_left this
theorem TC.openOwn {e : TypeId} {sz : Nat} {A : Option Addr} {n c : Nat} {xs : List Value} {L : List Assn} {k : Code}
    (h0 : A = none → n = 0 → c = 0 → xs = [] → TC C k Q env (OwnA e sz none 0 0 [] :: L))
    (h1 : ∀ g cs, A = some ⟨g, 0, none⟩ → cs.take (n * sz) = xs → cs.length = c * sz → n ≤ c → c ≤ maxLen → TC C k Q env (Blk g e cs :: L)) : TC C k Q env (OwnA e sz A n c xs :: L) := fun a w ha hw => by
  have hok := hw.ok (A := OwnA e sz A n c xs) (List.mem_cons_self ..)
  rcases OwnA.blk hok with ⟨rfl, rfl, rfl, rfl⟩ | ⟨g, cs, rfl, hb, ht, hl, hn, hm⟩
  · exact h0 rfl rfl rfl rfl a w ha hw
  · have hw' : St C.w0 C.M ([] ++ OwnA e sz (some ⟨g, 0, none⟩) n c xs :: L) w := hw
    exact h1 g cs rfl ht hl hn hm a w ha (hw'.upd (A' := Blk g e cs) rfl rfl rfl rfl rfl (fun _ _ => rfl) hb)
theorem St.shutOwn {w0 w : World} {M : List Nat} {e : TypeId} {sz g n c : Nat} {cs : List Value} {L : List Assn} (h : St w0 M (Blk g e cs :: L) w) (hl : cs.length = c * sz) (hn : n ≤ c) (hm : c ≤ maxLen) : St w0 M (OwnA e sz (some ⟨g, 0, none⟩) n c (cs.take (n * sz)) :: L) w := by
  have h' : St w0 M ([] ++ Blk g e cs :: L) w := h
  exact h'.upd (A' := OwnA e sz (some ⟨g, 0, none⟩) n c (cs.take (n * sz))) rfl rfl rfl rfl rfl (fun _ _ => rfl) (OwnA.of_blk (h.ok (A := Blk g e cs) (List.mem_cons_self ..)) hl hn hm)
theorem TC.shutOwn {e : TypeId} {sz g n c : Nat} {cs : List Value} {L : List Assn} {k : Code} (hl : cs.length = c * sz) (hn : n ≤ c) (hm : c ≤ maxLen) (h : TC C k Q env (OwnA e sz (some ⟨g, 0, none⟩) n c (cs.take (n * sz)) :: L)) : TC C k Q env (Blk g e cs :: L) :=
  fun a w ha hw => h a w ha (hw.shutOwn hl hn hm)
end Go.E
