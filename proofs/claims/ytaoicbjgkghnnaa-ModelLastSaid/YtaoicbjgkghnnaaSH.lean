/-
  Plain words: the hash of a text, as a function on lists of bytes.
-/
import Derived.Test.YtaoicbjgkghnnaaEQ
namespace Go.E
set_option linter.unusedVariables false
abbrev W := BitVec 32
def w32s (xs : List W) : List Value := xs.map fun (x : W) => .int .u32 (x.toNat : Int)
def K256 : List W := [
  0x428a2f98, 0x71374491, 0xb5c0fbcf, 0xe9b5dba5, 0x3956c25b, 0x59f111f1, 0x923f82a4, 0xab1c5ed5,
  0xd807aa98, 0x12835b01, 0x243185be, 0x550c7dc3, 0x72be5d74, 0x80deb1fe, 0x9bdc06a7, 0xc19bf174,
  0xe49b69c1, 0xefbe4786, 0x0fc19dc6, 0x240ca1cc, 0x2de92c6f, 0x4a7484aa, 0x5cb0a9dc, 0x76f988da,
  0x983e5152, 0xa831c66d, 0xb00327c8, 0xbf597fc7, 0xc6e00bf3, 0xd5a79147, 0x06ca6351, 0x14292967,
  0x27b70a85, 0x2e1b2138, 0x4d2c6dfc, 0x53380d13, 0x650a7354, 0x766a0abb, 0x81c2c92e, 0x92722c85,
  0xa2bfe8a1, 0xa81a664b, 0xc24b8b70, 0xc76c51a3, 0xd192e819, 0xd6990624, 0xf40e3585, 0x106aa070,
  0x19a4c116, 0x1e376c08, 0x2748774c, 0x34b0bcb5, 0x391c0cb3, 0x4ed8aa4a, 0x5b9cca4f, 0x682e6ff3,
  0x748f82ee, 0x78a5636f, 0x84c87814, 0x8cc70208, 0x90befffa, 0xa4506ceb, 0xbef9a3f7, 0xc67178f2]
def I256 : List W := [0x6a09e667, 0xbb67ae85, 0x3c6ef372, 0xa54ff53a, 0x510e527f, 0x9b05688c, 0x1f83d9ab, 0x5be0cd19]
def ror (x : W) (k : Nat) : W := x >>> k ||| x <<< (32 - k)
def wordAt (bl : List UInt8) (i : Nat) : W :=
  BitVec.ofNat 32 (bl.getD i 0).toNat <<< 24 ||| BitVec.ofNat 32 (bl.getD (i + 1) 0).toNat <<< 16 ||| BitVec.ofNat 32 (bl.getD (i + 2) 0).toNat <<< 8 ||| BitVec.ofNat 32 (bl.getD (i + 3) 0).toNat
def sg0 (x : W) : W := ror x 7 ^^^ ror x 18 ^^^ x >>> 3
def sg1 (y : W) : W := ror y 17 ^^^ ror y 19 ^^^ y >>> 10
def nextW (bl : List UInt8) (ws : List W) (t : Nat) : W :=
  if t < 16 then wordAt bl (4 * t) else ws.getD (t - 16) 0 + sg0 (ws.getD (t - 15) 0) + ws.getD (t - 7) 0 + sg1 (ws.getD (t - 2) 0)
def sched (bl : List UInt8) : Nat → List W
  | 0 => []
  | t + 1 => sched bl t ++ [nextW bl (sched bl t) t]
def rnd (s : List W) (k w : W) : List W :=
  let a := s.getD 0 0; let b := s.getD 1 0; let c := s.getD 2 0; let e := s.getD 4 0; let f := s.getD 5 0; let g := s.getD 6 0
  let p := s.getD 7 0 + (ror e 6 ^^^ ror e 11 ^^^ ror e 25) + (e &&& f ^^^ ~~~ e &&& g) + k + w
  let q := (ror a 2 ^^^ ror a 13 ^^^ ror a 22) + (a &&& b ^^^ a &&& c ^^^ b &&& c)
  [p + q, a, b, c, s.getD 3 0 + p, e, f, g]
def rnds (s : List W) (ws : List W) : Nat → List W
  | 0 => s
  | t + 1 => rnd (rnds s ws t) (K256.getD t 0) (ws.getD t 0)
def plus8 (s t : List W) : List W := [s.getD 0 0 + t.getD 0 0, s.getD 1 0 + t.getD 1 0, s.getD 2 0 + t.getD 2 0, s.getD 3 0 + t.getD 3 0, s.getD 4 0 + t.getD 4 0, s.getD 5 0 + t.getD 5 0, s.getD 6 0 + t.getD 6 0, s.getD 7 0 + t.getD 7 0]
def comp (s : List W) (bl : List UInt8) : List W := plus8 (rnds s (sched bl 64) 64) s
def be8 (n : Nat) : List UInt8 := (List.range 8).map fun i => UInt8.ofNat (n / 2 ^ (56 - 8 * i))
def noughts (n : Nat) : Nat := (119 - n % 64) % 64
def padL (b : List UInt8) : List UInt8 := b ++ [128] ++ List.replicate (noughts b.length) 0 ++ be8 (b.length * 8 % 18446744073709551616)
def blk64 (p : List UInt8) (i : Nat) : List UInt8 := (p.drop (64 * i)).take 64
def sumSt (p : List UInt8) : Nat → List W
  | 0 => I256
  | n + 1 => comp (sumSt p n) (blk64 p n)
theorem sumSt_length (p : List UInt8) : ∀ n, (sumSt p n).length = 8
  | 0 => rfl
  | _ + 1 => rfl
def w4 (x : W) : List UInt8 := [UInt8.ofNat (x >>> 24).toNat, UInt8.ofNat (x >>> 16).toNat, UInt8.ofNat (x >>> 8).toNat, UInt8.ofNat x.toNat]
def outB (s : List W) : List UInt8 := s.flatMap w4
theorem outB_length (s : List W) : (outB s).length = 4 * s.length := by
  induction s with
  | nil => rfl
  | cons x s ih => simp only [outB, List.flatMap_cons, List.length_append] at ih ⊢; rw [ih]; simp [w4]; omega
def shaL (b : List UInt8) : List UInt8 := outB (sumSt (padL b) ((padL b).length / 64))
theorem shaL_length (b : List UInt8) : (shaL b).length = 32 := by rw [shaL, outB_length, sumSt_length]
def shaH (b : List UInt8) : H32 := ⟨shaL b, shaL_length b⟩

/-! the document's way to write it -/
/-! parts of blocks; the tables -/
variable {C : Ctx} {L : List Assn}
theorem Rd.part {b : Nat} {T : TypeId} {cs : List Value} (h : Rd C L (Blk b T cs)) (o n : Nat) : Rd C L (SlA (some ⟨b, o, none⟩) ((cs.drop o).take n)) := h.sub (fun k hk => by
    rw [SlA_fp] at hk
    obtain ⟨a, ha, rfl, _⟩ := mem_slfp hk
    injection ha with ha
    subst ha
    exact List.mem_cons_self ..) fun w hw j u hj => by
  refine ⟨_, rfl, ?_⟩
  rw [add_cell, cell_of_blk hw]
  rw [List.getElem?_take] at hj
  split at hj
  · rwa [List.getElem?_drop] at hj
  · cases hj
/-- The tables of the hash: the constants in block gk, the initial values in block gi. -/
def Tabs (gk gi : Nat) (w : World) (M : List Nat) : Prop := Ro w M (SlA (some ⟨gk, 0, none⟩) (w32s K256)) ∧ Ro w M (SlA (some ⟨gi, 0, none⟩) (w32s I256))
theorem Tabs.at {gk gi : Nat} (h : Tabs gk gi C.w0 C.M) {w : World} (hw : St C.w0 C.M L w) : Tabs gk gi w [] := ⟨Rd.ro h.1 w hw, Rd.ro h.2 w hw⟩
theorem Tabs.pre {gk gi : Nat} {w0 w : World} {M : List Nat} {Pre R : List Assn} (h : Tabs gk gi w0 M) (hw : St w0 M (Pre ++ R) w) : Tabs gk gi w (fps Pre) := ⟨Ro.of_pre hw h.1, Ro.of_pre hw h.2⟩
/-! cut into blocks -/
theorem SlA.part {A : Option Addr} {cs : List Value} {w : World} (h : (SlA A cs).ok w) (k n : Nat) : (SlA (A.map (·.add k)) ((cs.drop k).take n)).ok w := fun j u hj => by
  rw [List.getElem?_take] at hj
  split at hj
  · rw [List.getElem?_drop] at hj
    obtain ⟨a, rfl, hu⟩ := h _ u hj
    exact ⟨a.add k, rfl, by rw [add_add]; exact hu⟩
  · cases hj
theorem Ro.part {w : World} {M : List Nat} {A : Option Addr} {cs : List Value} (h : Ro w M (SlA A cs)) (k n : Nat) : Ro w M (SlA (A.map (·.add k)) ((cs.drop k).take n)) :=
  ⟨SlA.part h.1 k n, fun b hb => by
    rw [SlA_fp] at hb
    obtain ⟨a, ha, rfl, hne⟩ := mem_slfp hb
    cases A with
    | none => cases ha
    | some a0 =>
      injection ha with ha
      subst ha
      rw [add_block]
      refine h.2 _ ?_
      rw [SlA_fp]
      exact in_slfp (fun e => hne (by rw [e]; simp))⟩
theorem Ro.own {w : World} {M : List Nat} {e : TypeId} {sz n c : Nat} {A : Option Addr} {xs : List Value} (h : Ro w M (OwnA e sz A n c xs)) : Ro w M (SlA A xs) :=
  ⟨OwnA.sl h.1, fun b hb => h.2 b (by
    rw [SlA_fp] at hb
    obtain ⟨a, rfl, rfl, hne⟩ := mem_slfp hb
    rcases h.1.2 with ⟨hv, hn⟩ | ⟨g, cap, cur, hv, _⟩
    · injection hv with h1; cases h1
    · injection hv with h1 h2 h3
      injection h1 with h1
      subst h1
      show _ ∈ (Value.ownBlock (.slice (some ⟨g, 0, none⟩) n c)).toList
      simp [Value.ownBlock])⟩
theorem finRange_take {m k : Nat} (h : k < m) : (List.finRange m).take (k + 1) = (List.finRange m).take k ++ [⟨k, h⟩] := by
  rw [List.take_succ_eq_append_getElem (by simpa using h)]
  simp
theorem finRange_all (m : Nat) : (List.finRange m).take m = List.finRange m := List.take_of_length_le (by simp)
/-! the document's loops -/
end Go.E
