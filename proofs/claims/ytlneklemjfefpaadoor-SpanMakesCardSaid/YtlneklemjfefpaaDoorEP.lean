/-
  The program logic, fourteenth part: bits and shifts; words of 32 bits; arrays inside a block; copies.
-/
import Derived.Test.YtlneklemjfefpaaDoorEN
namespace Go.E
set_option linter.unusedVariables false
variable {C : Ctx} {Q : EQ} {env : Env} {L : List Assn}
theorem kmax_lt (k : IntKind) : kmax k < 2 ^ k.bits := by cases k <;> decide
def kbits : IntKind → Nat
  | .i8 => 7 | .i16 => 15 | .i32 => 31 | .i64 => 63
  | .u8 => 8 | .u16 => 16 | .u32 => 32 | .u64 => 64
theorem kmax_kbits (k : IntKind) : kmax k + 1 = 2 ^ kbits k := by cases k <;> rfl
theorem ofInt_toNat {k : IntKind} {a : Nat} (h : a ≤ kmax k) : (BitVec.ofInt k.bits (a : Int)).toNat = a := by
  rw [BitVec.ofInt_natCast, BitVec.toNat_ofNat]
  exact Nat.mod_eq_of_lt (Nat.lt_of_le_of_lt h (kmax_lt k))
theorem le_kmax {k : IntKind} {a : Nat} (h : a < 2 ^ kbits k) : a ≤ kmax k := by have := kmax_kbits k; omega
theorem lt_kbits {k : IntKind} {a : Nat} (h : a ≤ kmax k) : a < 2 ^ kbits k := by have := kmax_kbits k; omega
section ops
variable {dst : Option Tmp} {ty : TypeId} {pos : String} {after : Array Edge} {guard : Option (Nat × Bool)} {x y z : Operand} {v : Value}
variable {t ty2 : TypeId} {k : IntKind} {a b : Nat} {m n : Int}
theorem Qt.xorN (hx : env.ev x = .int k (a : Int)) (hy : env.ev y = .int k (b : Int)) (ha : a ≤ kmax k) (hb : b ≤ kmax k) :
    Qt C L ⟨dst, .binOp .xor t x y ty2, ty, pos, after, guard⟩ env (.int k ((a ^^^ b : Nat) : Int)) := fun w _ =>
  run_arith rfl hx hy (by
    have h : a ^^^ b ≤ kmax k := le_kmax (Nat.xor_lt_two_pow (lt_kbits ha) (lt_kbits hb))
    simp only [binOp, Op.intBits, BitVec.toNat_xor, ofInt_toNat ha, ofInt_toNat hb, wrap_nat h]; simp)
theorem Qt.orN (hx : env.ev x = .int k (a : Int)) (hy : env.ev y = .int k (b : Int)) (ha : a ≤ kmax k) (hb : b ≤ kmax k) :
    Qt C L ⟨dst, .binOp .or t x y ty2, ty, pos, after, guard⟩ env (.int k ((a ||| b : Nat) : Int)) := fun w _ =>
  run_arith rfl hx hy (by
    have h : a ||| b ≤ kmax k := le_kmax (Nat.or_lt_two_pow (lt_kbits ha) (lt_kbits hb))
    simp only [binOp, Op.intBits, BitVec.toNat_or, ofInt_toNat ha, ofInt_toNat hb, wrap_nat h]; simp)
theorem Qt.andN (hx : env.ev x = .int k (a : Int)) (hy : env.ev y = .int k (b : Int)) (ha : a ≤ kmax k) (hb : b ≤ kmax k) :
    Qt C L ⟨dst, .binOp .and t x y ty2, ty, pos, after, guard⟩ env (.int k ((a &&& b : Nat) : Int)) := fun w _ =>
  run_arith rfl hx hy (by
    have h : a &&& b ≤ kmax k := Nat.le_trans Nat.and_le_left ha
    simp only [binOp, Op.intBits, BitVec.toNat_and, ofInt_toNat ha, ofInt_toNat hb, wrap_nat h]; simp)
theorem run_shift {o : Oper} {op : BinOp} (ho : o.op = .binOp op t x y ty2) (hop : op = .shl ∨ op = .shr) {ky : IntKind} (hx : env.ev x = .int k m) (hy : env.ev y = .int ky n) {P : Program} {w : World} {r : Value}
    (hr : (Op.shift op k m ky n).run P w = .ok r w) : (execOp env.ev o).run P w = .ok (.value r) w := by
  have he : (eqGuard op t x y (.int k m) (.int ky n)).run P w = .ok () w := by
    rcases hop with rfl | rfl <;> (unfold eqGuard; simp)
  rcases hop with rfl | rfl <;> simp [execOp, ho, hx, hy, he, binOp, hr]
theorem div_min {k : IntKind} (ha : a ≤ kmax k) (s : Nat) : a / 2 ^ min s k.bits = a / 2 ^ s := by
  rcases Nat.le_total s k.bits with h | h
  · rw [Nat.min_eq_left h]
  · rw [Nat.min_eq_right h, Nat.div_eq_of_lt (Nat.lt_of_le_of_lt ha (kmax_lt k)), Nat.div_eq_of_lt (Nat.lt_of_lt_of_le (Nat.lt_of_le_of_lt ha (kmax_lt k)) (Nat.pow_le_pow_right (by decide) h))]
theorem Qt.shrN {ky : IntKind} {s : Nat} (hx : env.ev x = .int k (a : Int)) (hy : env.ev y = .int ky (s : Int)) (ha : a ≤ kmax k) :
    Qt C L ⟨dst, .binOp .shr t x y ty2, ty, pos, after, guard⟩ env (.int k ((a / 2 ^ s : Nat) : Int)) := fun w _ =>
  run_shift rfl (.inr rfl) hx hy (by
    have h0 : ¬ ((s : Nat) : Int) < 0 := by omega
    have h1 : Int.fdiv (a : Int) (2 ^ min s k.bits) = ((a / 2 ^ s : Nat) : Int) := by
      rw [← div_min ha s, Int.fdiv_eq_ediv_of_nonneg _ (by exact_mod_cast Nat.zero_le _)]
      push_cast; rfl
    simp only [Op.shift, if_neg h0, Int.toNat_natCast, h1]; simp)
theorem Qt.shlN {ky : IntKind} {s : Nat} (hx : env.ev x = .int k (a : Int)) (hy : env.ev y = .int ky (s : Int)) (h : a * 2 ^ s ≤ kmax k) :
    Qt C L ⟨dst, .binOp .shl t x y ty2, ty, pos, after, guard⟩ env (.int k ((a * 2 ^ s : Nat) : Int)) := fun w _ =>
  run_shift rfl (.inl rfl) hx hy (by
    have h0 : ¬ ((s : Nat) : Int) < 0 := by omega
    have h2 : a * 2 ^ min s k.bits = a * 2 ^ s := by
      rcases Nat.le_total s k.bits with h3 | h3
      · rw [Nat.min_eq_left h3]
      · rcases Nat.eq_zero_or_pos a with rfl | hp
        · simp
        · exfalso
          have h4 : 2 ^ k.bits ≤ a * 2 ^ s := Nat.le_trans (Nat.pow_le_pow_right (by decide) h3) (Nat.le_mul_of_pos_left _ hp)
          have := kmax_lt k; omega
    have h1 : k.wrap ((a : Int) * 2 ^ min s k.bits) = ((a * 2 ^ s : Nat) : Int) := by
      rw [← wrap_nat h, ← h2]; push_cast; rfl
    simp only [Op.shift, if_neg h0, Int.toNat_natCast, h1]; simp)
theorem Qt.shlm {ky : IntKind} {s : Nat} (hx : env.ev x = .int k (a : Int)) (hy : env.ev y = .int ky (s : Int)) (hk : k.signed = false) (hs : s ≤ k.bits) :
    Qt C L ⟨dst, .binOp .shl t x y ty2, ty, pos, after, guard⟩ env (.int k ((a * 2 ^ s % umod k : Nat) : Int)) := fun w _ =>
  run_shift rfl (.inl rfl) hx hy (by
    have h0 : ¬ ((s : Nat) : Int) < 0 := by omega
    have h1 : k.wrap ((a : Int) * 2 ^ min s k.bits) = ((a * 2 ^ s % umod k : Nat) : Int) := by
      rw [← wrap_umod _ hk, Nat.min_eq_left hs]; push_cast; rfl
    simp only [Op.shift, if_neg h0, Int.toNat_natCast, h1]; simp)
theorem Qt.negi (hx : env.ev x = .int k m) (h : k.wrap (-m) = -m) : Qt C L ⟨dst, .unOp .neg t x, ty, pos, after, guard⟩ env (.int k (-m)) := fun w _ => by
  simp [execOp, hx, Op.unary, Op.intArith, h]

/-! words of 32 bits -/
variable {p q : BitVec 32}
theorem p_le (p : BitVec 32) : p.toNat ≤ kmax .u32 := by have := p.isLt; simp only [kmax]; omega
theorem Qt.add32 (hx : env.ev x = .int .u32 (p.toNat : Int)) (hy : env.ev y = .int .u32 (q.toNat : Int)) :
    Qt C L ⟨dst, .binOp .add t x y ty2, ty, pos, after, guard⟩ env (.int .u32 ((p + q).toNat : Int)) := by
  rw [BitVec.toNat_add]; exact Qt.addm hx hy rfl
theorem Qt.mul32 (hx : env.ev x = .int .u32 (p.toNat : Int)) (hy : env.ev y = .int .u32 (q.toNat : Int)) :
    Qt C L ⟨dst, .binOp .mul t x y ty2, ty, pos, after, guard⟩ env (.int .u32 ((p * q).toNat : Int)) := by
  rw [BitVec.toNat_mul]; exact Qt.mulm hx hy rfl
theorem Qt.xor32 (hx : env.ev x = .int .u32 (p.toNat : Int)) (hy : env.ev y = .int .u32 (q.toNat : Int)) :
    Qt C L ⟨dst, .binOp .xor t x y ty2, ty, pos, after, guard⟩ env (.int .u32 ((p ^^^ q).toNat : Int)) := by
  rw [BitVec.toNat_xor]; exact Qt.xorN hx hy (p_le p) (p_le q)
theorem Qt.or32 (hx : env.ev x = .int .u32 (p.toNat : Int)) (hy : env.ev y = .int .u32 (q.toNat : Int)) :
    Qt C L ⟨dst, .binOp .or t x y ty2, ty, pos, after, guard⟩ env (.int .u32 ((p ||| q).toNat : Int)) := by
  rw [BitVec.toNat_or]; exact Qt.orN hx hy (p_le p) (p_le q)
theorem Qt.and32 (hx : env.ev x = .int .u32 (p.toNat : Int)) (hy : env.ev y = .int .u32 (q.toNat : Int)) :
    Qt C L ⟨dst, .binOp .and t x y ty2, ty, pos, after, guard⟩ env (.int .u32 ((p &&& q).toNat : Int)) := by
  rw [BitVec.toNat_and]; exact Qt.andN hx hy (p_le p) (p_le q)
theorem Qt.shr32 {ky : IntKind} {s : Nat} (hx : env.ev x = .int .u32 (p.toNat : Int)) (hy : env.ev y = .int ky (s : Int)) :
    Qt C L ⟨dst, .binOp .shr t x y ty2, ty, pos, after, guard⟩ env (.int .u32 ((p >>> s).toNat : Int)) := by
  rw [BitVec.toNat_ushiftRight, Nat.shiftRight_eq_div_pow]; exact Qt.shrN hx hy (p_le p)
theorem Qt.shl32 {ky : IntKind} {s : Nat} (hx : env.ev x = .int .u32 (p.toNat : Int)) (hy : env.ev y = .int ky (s : Int)) (hs : s ≤ 32) :
    Qt C L ⟨dst, .binOp .shl t x y ty2, ty, pos, after, guard⟩ env (.int .u32 ((p <<< s).toNat : Int)) := by
  rw [BitVec.toNat_shiftLeft, Nat.shiftLeft_eq]; exact Qt.shlm hx hy rfl hs
theorem Qt.not32 (hx : env.ev x = .int .u32 (p.toNat : Int)) : Qt C L ⟨dst, .unOp .xor t x, ty, pos, after, guard⟩ env (.int .u32 ((~~~ p).toNat : Int)) := fun w _ => by
  have h : Op.intBits .xor .u32 (if IntKind.signed .u32 then -1 else IntKind.max .u32) (p.toNat : Int) = pure (.int .u32 ((~~~ p).toNat : Int)) := by
    show pure (Value.int .u32 (IntKind.wrap .u32 ((BitVec.ofInt 32 (4294967295 : Int) ^^^ BitVec.ofInt 32 (p.toNat : Int)).toNat : Int))) = _
    have h1 : BitVec.ofInt 32 (p.toNat : Int) = p := by rw [BitVec.ofInt_natCast, BitVec.ofNat_toNat, BitVec.setWidth_eq]
    have h2 : BitVec.ofInt 32 (4294967295 : Int) = BitVec.allOnes 32 := by decide
    rw [h1, h2, BitVec.allOnes_xor, wrap_nat (p_le _)]
  simp [execOp, hx, Op.unary, h]
theorem u8_le (b : UInt8) : b.toNat ≤ 255 := by have := b.toNat_lt; omega
theorem Qt.u8to32 {src dstT : TypeId} {b : UInt8} (h1 : C.P.underlying src = some (.int .u8)) (h2 : C.P.underlying dstT = some (.int .u32)) (hx : env.ev x = .int .u8 (b.toNat : Int)) :
    Qt C L ⟨dst, .convert src dstT x, ty, pos, after, guard⟩ env (.int .u32 ((BitVec.ofNat 32 b.toNat).toNat : Int)) := by
  have hb := u8_le b
  rw [BitVec.toNat_ofNat, Nat.mod_eq_of_lt (by omega)]
  exact Qt.convert h1 h2 hx (by simp only [kmax]; omega)
theorem Qt.toByte {src dstT : TypeId} {k : IntKind} {a : Nat} (h1 : C.P.underlying src = some (.int k)) (h2 : C.P.underlying dstT = some (.int .u8)) (hx : env.ev x = .int k (a : Int)) :
    Qt C L ⟨dst, .convert src dstT x, ty, pos, after, guard⟩ env (.int .u8 (((UInt8.ofNat a).toNat : Nat) : Int)) := by
  have := Qt.convertw (C := C) (L := L) (dst := dst) (ty := ty) (pos := pos) (after := after) (guard := guard) h1 h2 hx
  rwa [wrap_umod a rfl] at this

/-! arrays inside a block -/
theorem Qt.indexB {e : TypeId} {o N i sz bl : Nat} {ki : IntKind} (ht : C.P.underlying t = some (.array N e)) (hsz : (C.P.info? e).map (·.size) = some sz) (hx : env.ev x = .pointer (some ⟨bl, o, none⟩)) (hy : env.ev y = .int ki (i : Int)) (hi : i < N) :
    Qt C L ⟨dst, .indexAddr t x y, ty, pos, after, guard⟩ env (.pointer (some ⟨bl, o + i * sz, none⟩)) := by
  have h := Qt.index_arr (C := C) (L := L) (dst := dst) (ty := ty) (pos := pos) (after := after) (guard := guard) ht hsz hx hy hi
  rwa [add_cell] at h
theorem Qt.indexS {e : TypeId} {o N c i sz bl : Nat} {ki : IntKind} (ht : C.P.underlying t = some (.slice e)) (hsz : (C.P.info? e).map (·.size) = some sz) (hx : env.ev x = .slice (some ⟨bl, o, none⟩) N c) (hy : env.ev y = .int ki (i : Int)) (hi : i < N) :
    Qt C L ⟨dst, .indexAddr t x y, ty, pos, after, guard⟩ env (.pointer (some ⟨bl, o + i * sz, none⟩)) := by
  have h := Qt.index_slice (C := C) (L := L) (dst := dst) (ty := ty) (pos := pos) (after := after) (guard := guard) ht hsz hx hy hi
  rwa [add_cell] at h
/-- The whole of an array, as a slice. -/
theorem Qt.sliceB_all {e : TypeId} {bl o N sz : Nat} (ht : C.P.underlying t = some (.array N e)) (hsz : (C.P.info? e).map (·.size) = some sz) (hx : env.ev x = .pointer (some ⟨bl, o, none⟩)) :
    Qt C L ⟨dst, .slice t x none none none, ty, pos, after, guard⟩ env (.slice (some ⟨bl, o, none⟩) N N) := fun w hw => by
  obtain ⟨inf, hin, hs⟩ := Option.map_eq_some_iff.1 hsz
  have h0 : (⟨bl, o, none⟩ : Addr).add 0 = ⟨bl, o, none⟩ := by simp [Addr.add]
  simp [execOp, hx, Instr.sliceAt, Instr.sliceBounds, Instr.sureAddr, run_underlying ht, sizeOf, typeInfo, hin, h0]
theorem Qt.sliceB_lo {e : TypeId} {bl o N l sz : Nat} {ki : IntKind} (ht : C.P.underlying t = some (.array N e)) (hsz : (C.P.info? e).map (·.size) = some sz) (hx : env.ev x = .pointer (some ⟨bl, o, none⟩)) (hy : env.ev y = .int ki (l : Int)) (hl : l < N) :
    Qt C L ⟨dst, .slice t x (some y) none none, ty, pos, after, guard⟩ env (.slice (some ⟨bl, o + l * sz, none⟩) (N - l) (N - l)) := fun w hw => by
  obtain ⟨inf, hin, hs⟩ := Option.map_eq_some_iff.1 hsz
  have hne : ¬ N = l := by omega
  simp [execOp, hx, hy, Instr.sliceAt, Instr.sliceBounds, Instr.sliceBound, asIntOf, Instr.sureAddr, run_underlying ht, sizeOf, typeInfo, hin, hs, Nat.le_of_lt hl, hne, add_cell]
theorem Qt.sliceB_lohi {e : TypeId} {bl o N l h sz : Nat} {ki kj : IntKind} (ht : C.P.underlying t = some (.array N e)) (hsz : (C.P.info? e).map (·.size) = some sz) (hx : env.ev x = .pointer (some ⟨bl, o, none⟩)) (hy : env.ev y = .int ki (l : Int)) (hz : env.ev z = .int kj (h : Int)) (hl : l < N) (hh : h ≤ N) (hlh : l ≤ h) :
    Qt C L ⟨dst, .slice t x (some y) (some z) none, ty, pos, after, guard⟩ env (.slice (some ⟨bl, o + l * sz, none⟩) (h - l) (N - l)) := fun w hw => by
  obtain ⟨inf, hin, hs⟩ := Option.map_eq_some_iff.1 hsz
  have hne : ¬ N = l := by omega
  simp [execOp, hx, hy, hz, Instr.sliceAt, Instr.sliceBounds, Instr.sliceBound, asIntOf, Instr.sureAddr, run_underlying ht, sizeOf, typeInfo, hin, hs, hlh, hh, hne, add_cell]
/-- With three indices. -/
theorem Qt.slice3 {e : TypeId} {A : Option Addr} {N c l h m sz : Nat} {ki kj kk : IntKind} {zz : Operand} (ht : C.P.underlying t = some (.slice e)) (hsz : (C.P.info? e).map (·.size) = some sz) (hx : env.ev x = .slice A N c) (hy : env.ev y = .int ki (l : Int)) (hz : env.ev z = .int kj (h : Int)) (hzz : env.ev zz = .int kk (m : Int)) (hl : l ≤ h) (hh : h ≤ m) (hm : m ≤ c) :
    Qt C L ⟨dst, .slice t x (some y) (some z) (some zz), ty, pos, after, guard⟩ env (.slice (if m = l then A else A.map (·.add (l * sz))) (h - l) (m - l)) := fun w hw => by
  obtain ⟨inf, hin, hs⟩ := Option.map_eq_some_iff.1 hsz
  simp [execOp, hx, hy, hz, hzz, Instr.sliceAt, Instr.slice, Instr.sliceBounds, Instr.sliceBound, asIntOf, run_underlying ht, sizeOf, typeInfo, hin, hs, hl, hh, hm]
theorem Qt.slice3_0 {e : TypeId} {A : Option Addr} {N c h m sz : Nat} {kj kk : IntKind} {zz : Operand} (ht : C.P.underlying t = some (.slice e)) (hsz : (C.P.info? e).map (·.size) = some sz) (hx : env.ev x = .slice A N c) (hz : env.ev z = .int kj (h : Int)) (hzz : env.ev zz = .int kk (m : Int)) (hh : h ≤ m) (hm : m ≤ c) :
    Qt C L ⟨dst, .slice t x none (some z) (some zz), ty, pos, after, guard⟩ env (.slice A h m) := fun w hw => by
  obtain ⟨inf, hin, hs⟩ := Option.map_eq_some_iff.1 hsz
  have h0 : A.map (fun a => a.add 0) = A := by cases A <;> simp [Addr.add]
  simp [execOp, hx, hz, hzz, Instr.sliceAt, Instr.slice, Instr.sliceBounds, Instr.sliceBound, asIntOf, run_underlying ht, sizeOf, typeInfo, hin, hh, hm, h0]
end ops
end Go.E
