/- Plain words: the hash of a text, as a function on lists of bytes. -/
import Derived.Test.YtgdjcmehlhebdaaGreatDoorEQ
set_option maxHeartbeats 25600000
namespace Go.E
abbrev W := BitVec 32
def w32s (xs : List W) : List Value := xs.map fun (x : W) => .int .u32 (x.toNat : Int)
theorem zao (xs : List W) : (w32s xs).length = xs.length := by simp [w32s]
theorem zaA {xs : List W} {i k : Nat} (h : i < xs.length) (hk : k = i) : (w32s xs)[k]? = some (.int .u32 ((xs.getD i 0).toNat : Int)) := by
 subst hk; simp [w32s, List.getElem?_eq_getElem h, List.getD]
theorem zi3 {xs : List W} {i : Nat} (h : i < xs.length) : (w32s xs).toArray[i]? = some (.int .u32 ((xs.getD i 0).toNat : Int)) := by
 simp [w32s, List.getElem?_eq_getElem h, List.getD]
theorem zeN (xs : List W) (i : Nat) (x : W) : (w32s xs).set i (.int .u32 (x.toNat : Int)) = w32s (xs.set i x) := by simp [w32s, List.map_set]
theorem zqo (l : List W) : ∀ u ∈ w32s l, u.oneCell' = true := by
 intro u hu
 obtain ⟨b, _, rfl⟩ := List.mem_map.1 hu
 rfl
theorem zi4 {xs : List UInt8} {i k : Nat} (h : i < xs.length) (hk : k = i) : (zad xs)[k]? = some (.int .u8 ((xs.getD i 0).toNat : Int)) := by
 subst hk; simp [zad, List.getElem?_eq_getElem h, List.getD]
theorem zmw (xs : List UInt8) (i : Nat) (x : UInt8) : (zad xs).set i (.int .u8 (x.toNat : Int)) = zad (xs.set i x) := by simp [zad, List.map_set]
theorem za1 (a b : List UInt8) : zad (a ++ b) = zad a ++ zad b := by simp [zad]
theorem zeq (a : List UInt8) (k : Nat) : (zad a).drop k = zad (a.drop k) := by simp [zad]
theorem zer (a : List UInt8) (k : Nat) : (zad a).take k = zad (a.take k) := by simp [zad]
def K256 : List W := [
 0x428a2f98, 0x71374491, 0xb5c0fbcf, 0xe9b5dba5, 0x3956c25b, 0x59f111f1, 0x923f82a4, 0xab1c5ed5,
 0xd807aa98, 0x12835b01, 0x243185be, 0x550c7dc3, 0x72be5d74, 0x80deb1fe, 0x9bdc06a7, 0xc19bf174,
 0xe49b69c1, 0xefbe4786, 0x0fc19dc6, 0x240ca1cc, 0x2de92c6f, 0x4a7484aa, 0x5cb0a9dc, 0x76f988da,
 0x983e5152, 0xa831c66d, 0xb00327c8, 0xbf597fc7, 0xc6e00bf3, 0xd5a79147, 0x06ca6351, 0x14292967,
 0x27b70a85, 0x2e1b2138, 0x4d2c6dfc, 0x53380d13, 0x650a7354, 0x766a0abb, 0x81c2c92e, 0x92722c85,
 0xa2bfe8a1, 0xa81a664b, 0xc24b8b70, 0xc76c51a3, 0xd192e819, 0xd6990624, 0xf40e3585, 0x106aa070,
 0x19a4c116, 0x1e376c08, 0x2748774c, 0x34b0bcb5, 0x391c0cb3, 0x4ed8aa4a, 0x5b9cca4f, 0x682e6ff3,
 0x748f82ee, 0x78a5636f, 0x84c87814, 0x8cc70208, 0x90befffa, 0xa4506ceb, 0xbef9a3f7, 0xc67178f2]
def I256 : List W := [0x6a09e667, 0xbb67ae85, 0x3c6ef372, 0xa54ff53a, 0x510e527f, 0x9b05688c, 0x1f83d9ab, 0x5be0cd19]
theorem zgk : K256.length = 64 := rfl
theorem zde : I256.length = 8 := rfl
def ror (x : W) (k : Nat) : W := x >>> k ||| x <<< (32 - k)
def zeO (bl : List UInt8) (i : Nat) : W :=
 BitVec.ofNat 32 (bl.getD i 0).toNat <<< 24 ||| BitVec.ofNat 32 (bl.getD (i + 1) 0).toNat <<< 16 ||| BitVec.ofNat 32 (bl.getD (i + 2) 0).toNat <<< 8 ||| BitVec.ofNat 32 (bl.getD (i + 3) 0).toNat
def sg0 (x : W) : W := ror x 7 ^^^ ror x 18 ^^^ x >>> 3
def sg1 (y : W) : W := ror y 17 ^^^ ror y 19 ^^^ y >>> 10
def zku (bl : List UInt8) (ws : List W) (t : Nat) : W :=
 if t < 16 then zeO bl (4 * t) else ws.getD (t - 16) 0 + sg0 (ws.getD (t - 15) 0) + ws.getD (t - 7) 0 + sg1 (ws.getD (t - 2) 0)
def zc5 (bl : List UInt8) : Nat → List W
 | 0 => []
 | t + 1 => zc5 bl t ++ [zku bl (zc5 bl t) t]
theorem zbD (bl : List UInt8) : ∀ t, (zc5 bl t).length = t
 | 0 => rfl
 | t + 1 => by simp [zc5, zbD bl t]
theorem zc6 {α : Type} (a b : List α) (i : Nat) (d : α) (h : i < a.length) : (a ++ b).getD i d = a.getD i d := by
 simp [List.getD, List.getElem?_append_left h]
theorem zii {α : Type} (a : List α) (n : Nat) (z x : α) (h : 0 < n) : (a ++ List.replicate n z).set a.length x = (a ++ [x]) ++ List.replicate (n - 1) z := by
 obtain ⟨m, rfl⟩ : ∃ m, n = m + 1 := ⟨n - 1, by omega⟩
 rw [List.set_append_right _ _ (Nat.le_refl _)]
 simp [List.replicate_succ]
def zby (bl : List UInt8) (t : Nat) : List W := zc5 bl t ++ List.replicate (64 - t) 0
theorem zaB (bl : List UInt8) {t : Nat} (h : t ≤ 64) : (zby bl t).length = 64 := by simp [zby, zbD]; omega
theorem zbZ (bl : List UInt8) {t i : Nat} (h : i < t) : (zby bl t).getD i 0 = (zc5 bl t).getD i 0 := zc6 _ _ _ _ (by rw [zbD]; exact h)
theorem zd4 (bl : List UInt8) {t : Nat} (h : t < 64) (x : W) (hx : x = zku bl (zc5 bl t) t) : (zby bl t).set t x = zby bl (t + 1) := by
 subst hx
 have := zii (zc5 bl t) (64 - t) 0 (zku bl (zc5 bl t) t) ow
 rw [zbD] at this
 rw [zby, this, zby, zc5, show 64 - t - 1 = 64 - (t + 1) by omega]
theorem zhv (bl : List UInt8) : zby bl 64 = zc5 bl 64 := by simp [zby]
def rnd (s : List W) (k w : W) : List W :=
 let a := s.getD 0 0; let b := s.getD 1 0; let c := s.getD 2 0; let e := s.getD 4 0; let f := s.getD 5 0; let g := s.getD 6 0
 let p := s.getD 7 0 + (ror e 6 ^^^ ror e 11 ^^^ ror e 25) + (e &&& f ^^^ ~~~ e &&& g) + k + w
 let q := (ror a 2 ^^^ ror a 13 ^^^ ror a 22) + (a &&& b ^^^ a &&& c ^^^ b &&& c)
 [p + q, a, b, c, s.getD 3 0 + p, e, f, g]
def rnds (s : List W) (ws : List W) : Nat → List W
 | 0 => s
 | t + 1 => rnd (rnds s ws t) (K256.getD t 0) (ws.getD t 0)
theorem zhw (s : List W) (k w : W) : (rnd s k w).length = 8 := rfl
theorem zbm {s : List W} (h : s.length = 8) (ws : List W) : ∀ t, (rnds s ws t).length = 8
 | 0 => h
 | _ + 1 => rfl
def zhg (s t : List W) : List W := [s.getD 0 0 + t.getD 0 0, s.getD 1 0 + t.getD 1 0, s.getD 2 0 + t.getD 2 0, s.getD 3 0 + t.getD 3 0, s.getD 4 0 + t.getD 4 0, s.getD 5 0 + t.getD 5 0, s.getD 6 0 + t.getD 6 0, s.getD 7 0 + t.getD 7 0]
def comp (s : List W) (bl : List UInt8) : List W := zhg (rnds s (zc5 bl 64) 64) s
theorem zdf (s : List W) (bl : List UInt8) : (comp s bl).length = 8 := rfl
def be8 (n : Nat) : List UInt8 := (List.range 8).map fun i => UInt8.ofNat (n / 2 ^ (56 - 8 * i))
def zaY (n : Nat) : Nat := (119 - n % 64) % 64
def padL (b : List UInt8) : List UInt8 := b ++ [128] ++ List.replicate (zaY b.length) 0 ++ be8 (b.length * 8 % 18446744073709551616)
theorem zff (n : Nat) : (be8 n).length = 8 := by simp [be8]
theorem zcD (b : List UInt8) : (padL b).length = b.length + 1 + zaY b.length + 8 := by simp [padL, zff]; omega
theorem zes (n : Nat) : (n + 1 + zaY n) % 64 = 56 := by unfold zaY; omega
theorem zlI (b : List UInt8) : (padL b).length % 64 = 0 := by rw [zcD]; have := zes b.length; omega
def zfO (p : List UInt8) (i : Nat) : List UInt8 := (p.drop (64 * i)).take 64
def zhh (p : List UInt8) : Nat → List W
 | 0 => I256
 | n + 1 => comp (zhh p n) (zfO p n)
theorem zcj (p : List UInt8) : ∀ n, (zhh p n).length = 8
 | 0 => rfl
 | _ + 1 => rfl
def w4 (x : W) : List UInt8 := [UInt8.ofNat (x >>> 24).toNat, UInt8.ofNat (x >>> 16).toNat, UInt8.ofNat (x >>> 8).toNat, UInt8.ofNat x.toNat]
def outB (s : List W) : List UInt8 := s.flatMap w4
theorem zbS (s : List W) : (outB s).length = 4 * s.length := by
 induction s with
 | nil => rfl
 | cons x s ih => simp only [outB, List.flatMap_cons, List.length_append] at ih ⊢; rw [ih]; simp [w4]; omega
def shaL (b : List UInt8) : List UInt8 := outB (zhh (padL b) ((padL b).length / 64))
theorem zkv (b : List UInt8) : (shaL b).length = 32 := by rw [shaL, zbS, zcj]
def shaH (b : List UInt8) : H32 := ⟨shaL b, zkv b⟩
/-! the document's way to write it -/
theorem zsb {n m i : Nat} (h : m < 2 ^ i) : n <<< i + m = n <<< i ||| m := Nat.shiftLeft_add_eq_or_of_lt h n
def zmx (w : W) (b : UInt8) : W := w * 256 + BitVec.ofNat 32 b.toNat
theorem zkw (w : W) (b : UInt8) : (zmx w b).toNat = (w.toNat * 256 + b.toNat) % 4294967296 := by
 have := zmv b
 have h256 : (256 : W).toNat = 256 := rfl
 simp only [zmx, BitVec.toNat_add, BitVec.toNat_mul, BitVec.toNat_ofNat, h256]
 omega
theorem or4 {a b c d : Nat} (ha : a ≤ 255) (hb : b ≤ 255) (hc : c ≤ 255) (hd : d ≤ 255) : a <<< 24 ||| b <<< 16 ||| c <<< 8 ||| d = ((a * 256 + b) * 256 + c) * 256 + d := by
 have e1 : a <<< 24 ||| b <<< 16 = (a * 256 + b) <<< 16 := by
  rw [← zsb (by rw [Nat.shiftLeft_eq]; omega)]; simp only [Nat.shiftLeft_eq]; omega
 have e2 : (a * 256 + b) <<< 16 ||| c <<< 8 = ((a * 256 + b) * 256 + c) <<< 8 := by
  rw [← zsb (by rw [Nat.shiftLeft_eq]; omega)]; simp only [Nat.shiftLeft_eq]; omega
 rw [e1, e2, ← zsb ow]; simp only [Nat.shiftLeft_eq]
theorem zi5 (bl : List UInt8) (i : Nat) : zeO bl i = zmx (zmx (zmx (zmx 0 (bl.getD i 0)) (bl.getD (i + 1) 0)) (bl.getD (i + 2) 0)) (bl.getD (i + 3) 0) := by
 have h0 := zmv (bl.getD i 0); have h1 := zmv (bl.getD (i + 1) 0); have h2 := zmv (bl.getD (i + 2) 0); have h3 := zmv (bl.getD (i + 3) 0)
 apply BitVec.eq_of_toNat_eq
 simp only [zkw, zeO, BitVec.toNat_or, BitVec.toNat_shiftLeft, BitVec.toNat_ofNat]
 generalize (bl.getD i 0).toNat = a at *
 generalize (bl.getD (i + 1) 0).toNat = b at *
 generalize (bl.getD (i + 2) 0).toNat = c at *
 generalize (bl.getD (i + 3) 0).toNat = d at *
 have m : ∀ n s, n ≤ 255 → s ≤ 24 → (n % 2 ^ 32) <<< s % 2 ^ 32 = n <<< s := fun n s hn hs => by
  rw [Nat.mod_eq_of_lt (a := n) ow, Nat.shiftLeft_eq]
  have : 2 ^ s ≤ 2 ^ 24 := Nat.pow_le_pow_right (by decide) hs
  exact Nat.mod_eq_of_lt (Nat.lt_of_le_of_lt (Nat.mul_le_mul hn this) (by decide))
 rw [m a 24 h0 ow, m b 16 h1 ow, m c 8 h2 ow, Nat.mod_eq_of_lt (a := d) ow, or4 h0 h1 h2 h3]
 simp
 omega
theorem zsc (x : W) {k : Nat} (h : k ≤ 32) : x <<< (32 - k) ||| x >>> (32 - (32 - k)) = ror x k := by
 rw [show 32 - (32 - k) = k by omega, BitVec.or_comm]; rfl
theorem znQ (s : List W) {i : Nat} (h : i < 4 * s.length) : (outB s).getD i 0 = UInt8.ofNat ((s.getD (i / 4) 0) >>> (24 - 8 * (i % 4))).toNat := by
 induction s generalizing i with
 | nil => simp at h
 | cons x s ih =>
  have hd : outB (x :: s) = w4 x ++ outB s := rfl
  rw [hd]
  rcases Nat.lt_or_ge i 4 with h4 | h4
  ·rw [zc6 _ _ _ _ (by simpa [w4] using h4)]
   have : i = 0 ∨ i = 1 ∨ i = 2 ∨ i = 3 := by omega
   rcases this with rfl | rfl | rfl | rfl <;> simp [w4, List.getD]
  ·have h5 : (w4 x ++ outB s).getD i 0 = (outB s).getD (i - 4) 0 := by
    simp only [List.getD]
    rw [List.getElem?_append_right (by simpa [w4] using h4)]
    rfl
   rw [h5, ih (by simp only [List.length_cons] at h; omega)]
   have h6 : (x :: s).getD (i / 4) 0 = s.getD ((i - 4) / 4) 0 := by
    rw [show i / 4 = (i - 4) / 4 + 1 by omega]; rfl
   rw [h6, show i % 4 = (i - 4) % 4 by omega]
/-! parts of blocks; the tables -/
theorem zav (l : List Value) : vl (.agg l.toArray) = l := rfl
theorem zcw (l : List W) : (vl (.agg (w32s l).toArray)).all (·.oneCell') = true := List.all_eq_true.2 (zqo l)
theorem zhx (l : List UInt8) : (vl (.agg (zad l).toArray)).all (·.oneCell') = true := List.all_eq_true.2 (zaw l)
variable {C : Ctx} {L : List Assn}
theorem Rd.part {b : Nat} {T : TypeId} {cs : List Value} (h : Rd C L (Blk b T cs)) (o n : Nat) : Rd C L (SlA (some ⟨b, o, none⟩) ((cs.drop o).take n)) := h.sub (fun k hk => by
  rw [zcC] at hk
  obtain ⟨a, ha, rfl, _⟩ := zbx hk
  injection ha with ha
  subst ha
  exact List.mem_cons_self ..) fun w hw j u hj => by
 refine ⟨_, rfl, ?_⟩
 rw [zbh, zb9 hw]
 rw [List.getElem?_take] at hj
 split at hj
 ·rwa [List.getElem?_drop] at hj
 ·cases hj
theorem Rd.bytesPart {b : Nat} {T : TypeId} {bl : List UInt8} (h : Rd C L (Blk b T (zad bl))) (o n : Nat) : Rd C L (SlA (some ⟨b, o, none⟩) (zad ((bl.drop o).take n))) := by
 have := Rd.part h o n
 rwa [zeq, zer] at this
theorem Rd.bytesAll {b : Nat} {T : TypeId} {bl : List UInt8} (h : Rd C L (Blk b T (zad bl))) : Rd C L (SlA (some ⟨b, 0, none⟩) (zad bl)) := Rd.blk h
theorem Ld.slB {b o : Nat} {cs : List Value} {T : TypeId} {k : Nat} {v : Value} (h : Has C L (SlA (some ⟨b, o, none⟩) cs)) (hT : oneT C.P T = true) (hv : cs[k]? = some v) : Ld C L (some ⟨b, o + k, none⟩) T v := fun w hw => by
 obtain ⟨a, ha, hu⟩ := h w hw k v hv
 injection ha with ha
 subst ha
 rw [zbh] at hu
 exact ⟨_, rfl, zcA hT hu⟩
def Tabs (gk gi : Nat) (w : World) (M : List Nat) : Prop := Ro w M (SlA (some ⟨gk, 0, none⟩) (w32s K256)) ∧ Ro w M (SlA (some ⟨gi, 0, none⟩) (w32s I256))
theorem Tabs.at {gk gi : Nat} (h : Tabs gk gi C.w0 C.M) {w : World} (hw : St C.w0 C.M L w) : Tabs gk gi w [] := ⟨Rd.ro h.1 w hw, Rd.ro h.2 w hw⟩
theorem Tabs.pre {gk gi : Nat} {w0 w : World} {M : List Nat} {Pre R : List Assn} (h : Tabs gk gi w0 M) (hw : St w0 M (Pre ++ R) w) : Tabs gk gi w (fps Pre) := ⟨Ro.of_pre hw h.1, Ro.of_pre hw h.2⟩
theorem Tabs.of_go {gk gi : Nat} {w0 w : World} {M N : List Nat} {L : List Assn} (h : Tabs gk gi w0 M) (hw : St w0 M L w) (hN : ∀ b ∈ N, b ∈ M ∨ w0.heap.size ≤ b) : Tabs gk gi w N := ⟨h.1.go hw hN, h.2.go hw hN⟩
theorem zgl (bl : List UInt8) : w32s (zby bl 0) = List.replicate 64 (.int .u32 0) := by simp [zby, zc5, w32s]
theorem zeP {α : Type} (l : List α) (o n i : Nat) (d : α) (h : i < n) : ((l.drop o).take n).getD i d = l.getD (o + i) d := by
 simp [List.getD, h]
theorem znR (bl : List UInt8) (o : Nat) : zeO ((bl.drop o).take 4) 0 = zeO bl o := by
 simp only [zeO, zeP _ _ _ _ _ (show 0 < 4 by omega), zeP _ _ _ _ _ (show 0 + 1 < 4 by omega), zeP _ _ _ _ _ (show 0 + 2 < 4 by omega), zeP _ _ _ _ _ (show 0 + 3 < 4 by omega)]
 rfl
theorem zgm {α : Type} (l : List α) (o n : Nat) (h : o + n ≤ l.length) : ((l.drop o).take n).length = n := by
 simp; omega
def addP (r s : List W) (i : Nat) : List W := (List.range 8).map fun j => if j < i then r.getD j 0 + s.getD j 0 else r.getD j 0
theorem zbE (r s : List W) (i : Nat) : (addP r s i).length = 8 := by simp [addP]
theorem znS {r : List W} (s : List W) (h : r.length = 8) : addP r s 0 = r := by
 refine List.ext_getElem (by rw [zbE, h]) fun i h1 h2 => ?_
 simp [addP, List.getD, h2]
theorem zqp (r s : List W) {i : Nat} (h : i < 8) : (addP r s i).getD i 0 = r.getD i 0 := by
 simp [addP, List.getD, h]
theorem zqq (r s : List W) {i : Nat} (h : i < 8) : (addP r s i).set i (r.getD i 0 + s.getD i 0) = addP r s (i + 1) := by
 refine List.ext_getElem (by simp [zbE]) fun j h1 h2 => ?_
 rw [List.getElem_set]
 by_cases hj : i = j
 ·subst hj; simp [addP]
 ·rw [if_neg hj]
  have h3 : (j < i + 1) = (j < i) := by apply propext; constructor <;> intro <;> omega
  simp [addP, h3]
theorem zqr (r s : List W) : addP r s 8 = zhg r s := rfl
theorem zi6 {l : List UInt8} {v : Value} (h : v ∈ zad l) : (vl v).length = 1 := by
 obtain ⟨b, _, rfl⟩ := List.mem_map.1 h
 rfl
theorem zhy {b : List UInt8} (h : zad b = []) : b = [] := by simpa [zad] using h
theorem zqs (n : Nat) {i : Nat} (h : i < 8) : (be8 n).take (i + 1) = (be8 n).take i ++ [UInt8.ofNat (n / 2 ^ (56 - 8 * i))] := by
 rw [List.take_succ_eq_append_getElem (by rw [zff]; exact h)]
 simp [be8]
theorem zsd (n : Nat) : (be8 n).take 8 = be8 n := List.take_of_length_le (by rw [zff]; exact Nat.le_refl _)
def padA (b : List UInt8) (j : Nat) : List UInt8 := b ++ [128] ++ List.replicate j 0
theorem zi7 (b : List UInt8) : zad b ++ zad [128] = zad (padA b 0) := by rw [← za1]; simp [padA]
theorem zi8 (b : List UInt8) (j : Nat) : zad (padA b j) ++ zad [0] = zad (padA b (j + 1)) := by
 rw [← za1, padA, padA, List.append_assoc, List.append_assoc, List.append_assoc]
 congr 3
 rw [List.replicate_succ']
def padB (b : List UInt8) (i : Nat) : List UInt8 := padA b (zaY b.length) ++ (be8 (8 * b.length)).take i
theorem zi9 (b : List UInt8) : padB b 0 = padA b (zaY b.length) := by simp [padB]
theorem zja (b : List UInt8) {i : Nat} (h : i < 8) : zad (padB b i) ++ zad [UInt8.ofNat (8 * b.length / 2 ^ (56 - 8 * i))] = zad (padB b (i + 1)) := by
 rw [← za1, padB, padB, zqs _ h, List.append_assoc]
theorem zlJ (b : List UInt8) (h : b.length ≤ 1000000000000000000) : padB b 8 = padL b := by
 rw [padB, zsd, padL, padA, Nat.mod_eq_of_lt ow, Nat.mul_comm]
theorem zmy {n j : Nat} (h : j ≤ zaY n) (h2 : (n + 1 + j) % 64 = 56) : j = zaY n := by
 have h3 := zes n
 have h4 : zaY n < 64 := by unfold zaY; omega
 omega
theorem zgn {n j : Nat} (h : j ≤ zaY n) (h2 : (n + 1 + j) % 64 ≠ 56) : j < zaY n := by
 have h3 := zes n
 rcases Nat.lt_or_ge j (zaY n) with h5 | h5
 ·exact h5
 ·obtain rfl : j = zaY n := by omega
  exact absurd h3 h2
/-! cut into blocks -/
theorem SlA.part {A : OAd} {cs : List Value} {w : World} (h : (SlA A cs).ok w) (k n : Nat) : (SlA (A.map (·.add k)) ((cs.drop k).take n)).ok w := fun j u hj => by
 rw [List.getElem?_take] at hj
 split at hj
 ·rw [List.getElem?_drop] at hj
  obtain ⟨a, rfl, hu⟩ := h _ u hj
  exact ⟨a.add k, rfl, by rw [add_add]; exact hu⟩
 ·cases hj
theorem Ro.part {w : World} {M : List Nat} {A : OAd} {cs : List Value} (h : Ro w M (SlA A cs)) (k n : Nat) : Ro w M (SlA (A.map (·.add k)) ((cs.drop k).take n)) :=
 ⟨SlA.part h.1 k n, fun b hb => by
  rw [zcC] at hb
  obtain ⟨a, ha, rfl, hne⟩ := zbx hb
  cases A with
  | none => cases ha
  | some a0 =>
   injection ha with ha
   subst ha
   rw [zeG]
   refine h.2 _ ?_
   rw [zcC]
   exact zgg (fun e => hne (by rw [e]; simp))⟩
theorem Ro.bytesPart {w : World} {M : List Nat} {A : OAd} {bl : List UInt8} (h : Ro w M (SlA A (zad bl))) (k n : Nat) : Ro w M (SlA (A.map (·.add k)) (zad ((bl.drop k).take n))) := by
 have := Ro.part h k n
 rwa [zeq, zer] at this
theorem Ro.own {w : World} {M : List Nat} {e : TypeId} {sz n c : Nat} {A : OAd} {xs : List Value} (h : Ro w M (OwnA e sz A n c xs)) : Ro w M (SlA A xs) :=
 ⟨OwnA.sl h.1, fun b hb => h.2 b (by
  rw [zcC] at hb
  obtain ⟨a, rfl, rfl, hne⟩ := zbx hb
  rcases h.1.2 with ⟨hv, hn⟩ | ⟨g, cap, cur, hv, _⟩
  ·injection hv with h1; cases h1
  ·injection hv with h1 h2 h3
   injection h1 with h1
   subst h1
   show _ ∈ (Value.ownBlock (.slice (some ⟨g, 0, none⟩) n c)).toList
   simp [Value.ownBlock])⟩
theorem zcP {p : List UInt8} {i m : Nat} (h : i < m) (hm : p.length = 64 * m) : (zfO p i).length = 64 := zgm _ _ _ ow
def sumF {m : Nat} (p : List UInt8) (pre : List (Fin m)) : List W := pre.foldl (fun s (i : Fin m) => comp s (zfO p i.val)) I256
theorem zdg {m : Nat} (p : List UInt8) (pre : List (Fin m)) : (sumF p pre).length = 8 := by
 unfold sumF
 rw [← List.reverse_reverse pre, List.foldl_reverse]
 cases pre.reverse <;> rfl
theorem zjb {m : Nat} (p : List UInt8) (pre : List (Fin m)) (x : Fin m) : sumF p (pre ++ [x]) = comp (sumF p pre) (zfO p x) := by simp [sumF]
theorem zbH {m k : Nat} (h : k < m) : (List.finRange m).take (k + 1) = (List.finRange m).take k ++ [⟨k, h⟩] := by
 rw [List.take_succ_eq_append_getElem (by simpa using h)]
 simp
theorem zcQ (m : Nat) : (List.finRange m).take m = List.finRange m := List.take_of_length_le (by simp)
theorem zjc {m : Nat} (p : List UInt8) : ∀ k, k ≤ m → sumF p ((List.finRange m).take k) = zhh p k
 | 0, _ => by simp [sumF, zhh]
 | k + 1, h => by rw [zbH ow, zjb, zjc p k ow, zhh]
theorem zqt (p : List UInt8) (m : Nat) : sumF p (List.finRange m) = zhh p m := by rw [← zcQ, zjc p m (Nat.le_refl _)]
def outP (s : List W) (k : Nat) : List UInt8 := (outB s).take (4 * k) ++ List.replicate (32 - 4 * k) 0
theorem zcE {s : List W} (h : s.length = 8) {k : Nat} (hk : k ≤ 8) : (outP s k).length = 32 := by simp [outP, zbS, h]; omega
theorem znT (s : List W) : zad (outP s 0) = List.replicate 32 (.int .u8 0) := by simp [outP, zad]
theorem zqu {s : List W} (h : s.length = 8) : outP s 8 = outB s := by
 simp [outP]
 exact List.take_of_length_le (by rw [zbS, h]; exact Nat.le_refl _)
theorem znU (s : List W) : ∀ {k : Nat}, k < s.length → (outB s).take (4 * (k + 1)) = (outB s).take (4 * k) ++ w4 (s.getD k 0) := by
 induction s with
 | nil => intro k h; simp at h
 | cons x s ih =>
  intro k h
  have e : outB (x :: s) = w4 x ++ outB s := rfl
  have hl : (w4 x).length = 4 := rfl
  rw [e]
  cases k with
  | zero => simp [List.take_append, hl, List.getD]
  | succ k =>
   have := ih (k := k) (by simpa using h)
   rw [List.take_append, List.take_append, hl, List.take_of_length_le (l := w4 x) (i := 4 * (k + 1 + 1)) (by rw [hl]; omega), List.take_of_length_le (l := w4 x) (i := 4 * (k + 1)) (by rw [hl]; omega)]
   rw [show 4 * (k + 1 + 1) - 4 = 4 * (k + 1) by omega, show 4 * (k + 1) - 4 = 4 * k by omega, this, List.append_assoc]
   rfl
theorem znV {s : List W} (h : s.length = 8) {k : Nat} (hk : k < 8) :
  (zad (outP s k)).take (4 * k) ++ zad (w4 (s.getD k 0)) ++ (zad (outP s k)).drop (4 * k + (zad (w4 (s.getD k 0))).length) = zad (outP s (k + 1)) := by
 have hl : (zad (w4 (s.getD k 0))).length = 4 := by rw [zal]; rfl
 have ht : ((outB s).take (4 * k)).length = 4 * k := by rw [List.length_take, zbS, h]; omega
 rw [hl, zer, zeq, ← za1, ← za1]
 congr 1
 rw [outP, outP, znU s ow, List.take_append, List.drop_append, ht, Nat.sub_self, List.take_zero, List.append_nil, List.take_take, Nat.min_self, List.drop_eq_nil_of_le (by rw [ht]; omega), List.nil_append, show 4 * k + 4 - 4 * k = 4 by omega, List.drop_replicate, show 32 - 4 * k - 4 = 32 - 4 * (k + 1) by omega]
def outQ (s : List W) (k : Nat) : List UInt8 := (outB s).take k ++ List.replicate (32 - k) 0
theorem zcF {s : List W} (h : s.length = 8) {k : Nat} (hk : k ≤ 32) : (outQ s k).length = 32 := by simp [outQ, zbS, h]; omega
theorem znW (s : List W) : zad (outQ s 0) = List.replicate 32 (.int .u8 0) := by simp [outQ, zad]
theorem zqv {s : List W} (h : s.length = 8) : outQ s 32 = outB s := by
 simp [outQ]
 exact List.take_of_length_le (by rw [zbS, h]; exact Nat.le_refl _)
theorem zqw {s : List W} (h : s.length = 8) {k : Nat} (hk : k < 32) : (outQ s k).set k (UInt8.ofNat ((s.getD (k / 4) 0) >>> (24 - 8 * (k % 4))).toNat) = outQ s (k + 1) := by
 have hl : k < (outB s).length := by rw [zbS, h]; omega
 have ht : ((outB s).take k).length = k := by rw [List.length_take]; omega
 rw [← znQ s (by rw [h]; omega)]
 have h1 := zii ((outB s).take k) (32 - k) (0 : UInt8) ((outB s).getD k 0) ow
 rw [ht] at h1
 rw [outQ, h1, outQ, List.take_succ_eq_append_getElem hl, show 32 - k - 1 = 32 - (k + 1) by omega]
 simp [List.getD, hl]
/-! the document's loops -/
def znX (bl : List UInt8) (o : Nat) : Nat → W
 | 0 => 0
 | i + 1 => znX bl o i * 256 + BitVec.ofNat 32 (bl.getD (o + i) 0).toNat
theorem zse (bl : List UInt8) (o : Nat) : znX bl o 4 = zeO bl o := by rw [zi5]; rfl
theorem znY (bl : List UInt8) {k : Nat} (h : k < 64) : (zby bl k).getD k 0 = 0 := by
 have hl := zbD bl k
 simp only [zby, List.getD]
 rw [List.getElem?_append_right ow, hl, Nat.sub_self, List.getElem?_replicate]
 simp [show 0 < 64 - k by omega]
theorem zjd (bl : List UInt8) {k : Nat} (h : k < 64) (o : Nat) : (zby bl k).set k (znX bl o 0) = zby bl k := by
 have hl : k < (zby bl k).length := by rw [zaB bl ow]; exact h
 have := znY bl h
 refine List.ext_getElem (by simp) fun i h1 h2 => ?_
 rw [List.getElem_set]
 split
 ·rename_i e; subst e
  simp [List.getD, hl] at this
  rw [this]; rfl
 ·rfl
theorem zqx {α : Type} (l : List α) (k : Nat) (x d : α) (h : k < l.length) : (l.set k x).getD k d = x := by simp [List.getD, h]
theorem zqy {α : Type} (l : List α) (k : Nat) (x y : α) : (l.set k x).set k y = l.set k y := List.set_set ..
theorem zkx (bl : List UInt8) {k : Nat} (h : k < 16) : (zby bl k).set k (znX bl (4 * k) 4) = zby bl (k + 1) :=
 zd4 bl ow _ (by rw [zse, zku, if_pos h])
theorem zmz (r s : List W) : zhg r s = zhg s r := by simp only [zhg, BitVec.add_comm]
end Go.E
