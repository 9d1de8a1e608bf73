/- Sorting a slice of numbers: the block that holds it; what 'less' is; words of 64 bits. -/
import Derived.Test.YtgdjcmehlhebdaaGreatDoorP1
import Derived.Sort.Walk13a
import Derived.Sort.LotD4
import Derived.Sort.AssemblyPlain
set_option maxHeartbeats 25600000
set_option linter.all false
namespace Go.E
@[reducible] def cutQ {γ : Type} (mods : List Nat) (vars : γ → List (Nat × Value)) (H : γ → List Assn) (inv : γ → Prop) (BM : Env) (Q : EQ) : EQ := fun x e L => match x with
 | .normal => ∃ g', inv g' ∧ Agr mods (vars g') BM e ∧ Sub (H g') L
 | x => Q x e L
theorem Q8 {C : Ctx} {Q : EQ} {env : Env} {L : List Assn} {γ : Type} (mods : List Nat) (vars : γ → List (Nat × Value)) (H : γ → List Assn) (inv : γ → Prop) {x y : Code}
  (h1 : TC C x (cutQ mods vars H inv env Q) env L) (h2 : ∀ g u, inv g → TC C y Q (puts (vars g) (scr mods u env)) (H g)) : TC C (.seq x y) Q env L :=
 c8 (TC.mono h1 fun z e L' hz => by
  cases z with
  | normal =>
   obtain ⟨g, hi, ha, hs⟩ := hz
   have h := (h2 g e hi).sub hs
   rw [← ha.eq] at h
   exact h
  | _ => exact hz)
def v5 (x y : Nat) : Bool := decide (x < y)
def w7 (d : Array Nat) (r : List Value) : List Value := w6 d.toList ++ r
theorem K6 (d : Array Nat) (r : List Value) : (w7 d r).length = d.size + r.length := by simp [w7, D5]
theorem eM {d : Array Nat} {r : List Value} {i : Nat} (h : i < d.size) : (w7 d r)[i * 1]? = some (.int .u64 ((d[i]! : Nat) : Int)) := by
 rw [w7, List.getElem?_append_left (by rw [D5, Array.length_toList]; omega), FE (i := i) (by rw [Array.length_toList]; exact h) (Nat.mul_one i)]
 simp [List.getD, h, getElem!_pos]
theorem B9 {d : Array Nat} {r : List Value} {i x : Nat} (h : i < d.size) : (w7 d r).set i (.int .u64 (x : Int)) = w7 (d.setIfInBounds i x) r := by
 rw [w7, List.set_append_left _ _ (by rw [D5, Array.length_toList]; exact h)]
 simp [w7, w6, List.map_set]
theorem x1 {C : Ctx} {L : List Assn} {env : Env} {dst : Option Tmp} {T : TypeId} {x y : Operand} {ty : TypeId} {po : String} {af : Array Edge} {gj : Option (Nat × Bool)} {e : TypeId} {b N c i : Nat} {ki : IntKind} {cs : List Value} (ht : C.P.underlying T = some (.slice e)) (hsz : (C.P.info? e).map (·.size) = some 1) (hx : env.ev x = .slice (some ⟨b, 0, none⟩) N c) (hy : env.ev y = .int ki (i : Int)) (hi : i < N)
  (h : Has C L (SlA (some ⟨b, 0, none⟩) cs)) (hc : i * 1 < cs.length) : Qt C L ⟨dst, .indexAddr T x y, ty, po, af, gj⟩ env (.pointer (some ⟨b, i, none⟩)) :=
 n8 (i5 ht hsz hx hy hi h hc) (by simp [Q4])
theorem gF : Go.Sort.SWO v5 where
 irrefl := fun x => by simp [v5]
 trans := fun x y z h1 h2 => by simp only [v5, decide_eq_true_eq] at *; omega
 ntrans := fun x y z h1 h2 => by simp only [v5, decide_eq_false_iff_not] at *; omega
def JQ (xs : List Nat) : List Nat := xs.mergeSort (fun x y => !v5 y x)
theorem zj3 (xs : List Nat) : (Go.Sort.sort v5 xs.toArray).toList = xs.mergeSort (fun x y => !v5 y x) := by
 have h := Go.Sort.sort_sorts v5 gF xs.toArray
 have := Go.Sort.sorted_unique_holds (lt := v5) gF (fun x y h1 h2 => by simp only [v5, decide_eq_false_iff_not] at *; omega) xs.toArray (Go.Sort.sort v5 xs.toArray) h.1 h.2
 simpa using this
theorem LW {d : Array Nat} {a b k : Nat} (h : v5 d[b]! d[a]! = true) : Go.Sort.order2 v5 d a b k = (b, a, k + 1) := if_pos h
theorem LV {d : Array Nat} {a b k : Nat} (h : ¬ v5 d[b]! d[a]! = true) : Go.Sort.order2 v5 d a b k = (a, b, k) := if_neg h
theorem zfb {d : Array Nat} {a j : Nat} (h : ¬ j > a) : Go.Sort.insInner v5 a j d = d := by
 cases j with
 | zero => rfl
 | succ j => rw [Go.Sort.insInner, if_neg (by simp [h])]
theorem zdJ {d : Array Nat} {a j : Nat} (h : ¬ v5 d[j]! d[j - 1]! = true) : Go.Sort.insInner v5 a j d = d := by
 cases j with
 | zero => rfl
 | succ j => rw [Go.Sort.insInner, if_neg (by simp only [Nat.add_sub_cancel] at h; simp [h])]
theorem zfa {d : Array Nat} {a j : Nat} (h : j > a) (h2 : v5 d[j]! d[j - 1]! = true) : Go.Sort.insInner v5 a j d = Go.Sort.insInner v5 a (j - 1) (Go.Sort.swp d j (j - 1)) := by
 cases j with
 | zero => omega
 | succ j => rw [Go.Sort.insInner, if_pos (by simp only [Nat.add_sub_cancel] at h2; simp [h, h2])]; rfl
theorem zfc {d : Array Nat} {a b i : Nat} (h : ¬ i < b) : Go.Sort.insOuter v5 a b i d = d := by rw [Go.Sort.insOuter, if_neg h]
theorem zD {d : Array Nat} {a b i : Nat} (h : i < b) : Go.Sort.insOuter v5 a b i d = Go.Sort.insOuter v5 a b (i + 1) (Go.Sort.insInner v5 a i d) := by rw [Go.Sort.insOuter, if_pos h]
theorem zhv {d : Array Nat} {i j : Nat} (h : ¬ i < j) : Go.Sort.reverseLoop i j d = d := by rw [Go.Sort.reverseLoop, if_neg h]
theorem zhu {d : Array Nat} {i j : Nat} (h : i < j) : Go.Sort.reverseLoop i j d = Go.Sort.reverseLoop (i + 1) (j - 1) (Go.Sort.swp d i j) := by rw [Go.Sort.reverseLoop, if_pos h]
theorem AH {d : Array Nat} {hi f root : Nat} (h : 2 * root + 1 ≥ hi) : Go.Sort.siftDown v5 hi f root d = d := by rw [Go.Sort.siftDown, dif_pos h]
def HZ (d : Array Nat) (hi f root : Nat) : Nat := if 2 * root + 1 + 1 < hi ∧ v5 d[f + (2 * root + 1)]! d[f + (2 * root + 1) + 1]! = true then 2 * root + 1 + 1 else 2 * root + 1
theorem zjp {d : Array Nat} {hi f root : Nat} (h : ¬ 2 * root + 1 ≥ hi) : HZ d hi f root < hi ∧ root < HZ d hi f root := by unfold HZ; split <;> omega
theorem mA {d : Array Nat} {hi f root : Nat} (h : ¬ 2 * root + 1 ≥ hi) (h2 : ¬ v5 d[f + root]! d[f + HZ d hi f root]! = true) : Go.Sort.siftDown v5 hi f root d = d := by
 rw [Go.Sort.siftDown, dif_neg h]
 unfold HZ at h2
 split
 ·rename_i hc
  rw [if_pos (by simpa using hc)] at h2
  rw [if_pos (by simpa using h2)]
 ·rename_i hc
  rw [if_neg (by simpa using hc)] at h2
  rw [if_pos (by simpa using h2)]
theorem lZ {d : Array Nat} {hi f root : Nat} (h : ¬ 2 * root + 1 ≥ hi) (h2 : v5 d[f + root]! d[f + HZ d hi f root]! = true) : Go.Sort.siftDown v5 hi f root d = Go.Sort.siftDown v5 hi f (HZ d hi f root) (Go.Sort.swp d (f + root) (f + HZ d hi f root)) := by
 rw [Go.Sort.siftDown, dif_neg h]
 unfold HZ at h2 ⊢
 split
 ·rename_i hc
  have hc' : 2 * root + 1 + 1 < hi ∧ v5 d[f + (2 * root + 1)]! d[f + (2 * root + 1) + 1]! = true := by simpa using hc
  rw [if_pos hc'] at h2 ⊢
  rw [if_neg (by simpa using h2), dif_pos hc'.1]
 ·rename_i hc
  have hc' : ¬ (2 * root + 1 + 1 < hi ∧ v5 d[f + (2 * root + 1)]! d[f + (2 * root + 1) + 1]! = true) := by simpa using hc
  rw [if_neg hc'] at h2 ⊢
  rw [if_neg (by simpa using h2)]
theorem AJ (d : Array Nat) (hi f root : Nat) : (Go.Sort.siftDown v5 hi f root d).size = d.size := by
 generalize hk : hi - root = k
 induction k using Nat.strongRecOn generalizing root d with
 | _ k ih =>
  by_cases h : 2 * root + 1 ≥ hi
  ·rw [AH h]
  by_cases h2 : v5 d[f + root]! d[f + HZ d hi f root]! = true
  ·rw [lZ h h2, ih _ (by have := zjp (d := d) (f := f) h; omega) _ _ rfl, Go.Sort.swp_size]
  ·rw [mA h h2]
theorem zir {d : Array Nat} {hi f k : Nat} (h : 0 < k) : Go.Sort.heapBuild v5 hi f k d = Go.Sort.heapBuild v5 hi f (k - 1) (Go.Sort.siftDown v5 hi f (k - 1) d) := by
 cases k with
 | zero => omega
 | succ k => rfl
theorem zis {d : Array Nat} {hi f k : Nat} (h : k = 0) : Go.Sort.heapBuild v5 hi f k d = d := by subst h; rfl
theorem zit {d : Array Nat} {f k : Nat} (h : 0 < k) : Go.Sort.heapPop v5 f k d = Go.Sort.heapPop v5 f (k - 1) (Go.Sort.siftDown v5 (k - 1) f 0 (Go.Sort.swp d f (f + (k - 1)))) := by
 cases k with
 | zero => omega
 | succ k => rfl
theorem ziu {d : Array Nat} {f k : Nat} (h : k = 0) : Go.Sort.heapPop v5 f k d = d := by subst h; rfl
def FF (e : Array Nat) (a j i : Nat) : Nat := Go.Sort.scanUp (fun x => v5 x e[a]!) e j i
def DG (e : Array Nat) (a i j : Nat) : Nat := Go.Sort.scanDown (fun x => !v5 x e[a]!) e i j
theorem AU {e : Array Nat} {a j i : Nat} (h : ¬ i ≤ j) : FF e a j i = i := by rw [FF, Go.Sort.scanUp, if_neg (by simp [h])]
theorem AV {e : Array Nat} {a j i : Nat} (h : (v5 e[i]! e[a]!) = false) : FF e a j i = i := by rw [FF, Go.Sort.scanUp, if_neg (by simp only [h]; simp)]
theorem FG {e : Array Nat} {a j i : Nat} (h : i ≤ j) (h2 : (v5 e[i]! e[a]!) = true) : FF e a j i = FF e a j (i + 1) := by
 rw [FF, Go.Sort.scanUp, if_pos (by simp only [h2, h]; simp)]; rfl
theorem yV {e : Array Nat} {a i j : Nat} (h : ¬ i ≤ j) : DG e a i j = j := by
 cases j with
 | zero => rfl
 | succ j => rw [DG, Go.Sort.scanDown, if_neg (by simp [h])]
theorem yW {e : Array Nat} {a i j : Nat} (h : (!v5 e[j]! e[a]!) = false) : DG e a i j = j := by
 cases j with
 | zero => rfl
 | succ j => rw [DG, Go.Sort.scanDown, if_neg (by simp only [h]; simp)]
theorem DH {e : Array Nat} {a i j : Nat} (h : i ≤ j) (h1 : 1 ≤ i) (h2 : (!v5 e[j]! e[a]!) = true) : DG e a i j = DG e a i (j - 1) := by
 cases j with
 | zero => omega
 | succ j => rw [DG, Go.Sort.scanDown, if_pos (by simp only [h2, h]; simp)]; rfl
def IC (e : Array Nat) (a j i : Nat) : Nat := Go.Sort.scanUp (fun x => !v5 e[a]! x) e j i
def IB (e : Array Nat) (a i j : Nat) : Nat := Go.Sort.scanDown (fun x => v5 e[a]! x) e i j
theorem zgj {e : Array Nat} {a j i : Nat} (h : ¬ i ≤ j) : IC e a j i = i := by rw [IC, Go.Sort.scanUp, if_neg (by simp [h])]
theorem zgk {e : Array Nat} {a j i : Nat} (h : (!v5 e[a]! e[i]!) = false) : IC e a j i = i := by rw [IC, Go.Sort.scanUp, if_neg (by simp only [h]; simp)]
theorem zhV {e : Array Nat} {a j i : Nat} (h : i ≤ j) (h2 : (!v5 e[a]! e[i]!) = true) : IC e a j i = IC e a j (i + 1) := by
 rw [IC, Go.Sort.scanUp, if_pos (by simp only [h2, h]; simp)]; rfl
theorem zeR {e : Array Nat} {a i j : Nat} (h : ¬ i ≤ j) : IB e a i j = j := by
 cases j with
 | zero => rfl
 | succ j => rw [IB, Go.Sort.scanDown, if_neg (by simp [h])]
theorem zeS {e : Array Nat} {a i j : Nat} (h : (v5 e[a]! e[j]!) = false) : IB e a i j = j := by
 cases j with
 | zero => rfl
 | succ j => rw [IB, Go.Sort.scanDown, if_neg (by simp only [h]; simp)]
theorem zgW {e : Array Nat} {a i j : Nat} (h : i ≤ j) (h1 : 1 ≤ i) (h2 : (v5 e[a]! e[j]!) = true) : IB e a i j = IB e a i (j - 1) := by
 cases j with
 | zero => omega
 | succ j => rw [IB, Go.Sort.scanDown, if_pos (by simp only [h2, h]; simp)]; rfl
theorem ziI {f : Array Nat} {a i j k l : Nat} (hU : FF f a j i = k) (hD : DG f a k j = l) (h : k > l) : Go.Sort.partLoop v5 a i j f = (l, f) := by
 rw [Go.Sort.partLoop_eq]; subst hU; subst hD; exact if_pos h
theorem ziH {f : Array Nat} {a i j k l : Nat} (hU : FF f a j i = k) (hD : DG f a k j = l) (h : ¬ k > l) : Go.Sort.partLoop v5 a i j f = Go.Sort.partLoop v5 a (k + 1) (l - 1) (Go.Sort.swp f k l) := by
 rw [Go.Sort.partLoop_eq]; subst hU; subst hD; exact if_neg h
theorem ziF {f : Array Nat} {a i j k l : Nat} (hU : IC f a j i = k) (hD : IB f a k j = l) (h : k > l) : Go.Sort.partEqLoop v5 a i j f = (k, f) := by
 rw [Go.Sort.partEqLoop_eq]; subst hU; subst hD; exact if_pos h
theorem ziE {f : Array Nat} {a i j k l : Nat} (hU : IC f a j i = k) (hD : IB f a k j = l) (h : ¬ k > l) : Go.Sort.partEqLoop v5 a i j f = Go.Sort.partEqLoop v5 a (k + 1) (l - 1) (Go.Sort.swp f k l) := by
 rw [Go.Sort.partEqLoop_eq]; subst hU; subst hD; exact if_neg h
theorem zfG {d e : Array Nat} {a b p i j : Nat} (he : e = Go.Sort.swp d a p) (hU : FF e a (b - 1) (a + 1) = i) (hD : DG e a i (b - 1) = j) (h : i > j) : Go.Sort.partition v5 d a b p = (j, true, Go.Sort.swp e j a) := by
 subst he hU hD; exact if_pos h
theorem ziB {d e : Array Nat} {a b p i j : Nat} (he : e = Go.Sort.swp d a p) (hU : FF e a (b - 1) (a + 1) = i) (hD : DG e a i (b - 1) = j) (h : ¬ i > j) {l : Nat} {f : Array Nat} (hr : Go.Sort.partLoop v5 a (i + 1) (j - 1) (Go.Sort.swp e i j) = (l, f)) : Go.Sort.partition v5 d a b p = (l, false, Go.Sort.swp f l a) := by
 have : Go.Sort.partition v5 d a b p = (let r := Go.Sort.partLoop v5 a (i + 1) (j - 1) (Go.Sort.swp e i j); (r.1, false, Go.Sort.swp r.2 r.1 a)) := by subst he hU hD; exact if_neg h
 rw [this, hr]
theorem zhD {e : Array Nat} {b k : Nat} (h : ¬ k < b) : Go.Sort.scanSorted v5 e b k = k := by rw [Go.Sort.scanSorted, if_neg (by simp [h])]
theorem zhE {e : Array Nat} {b k : Nat} (h : v5 e[k]! e[k - 1]! = true) : Go.Sort.scanSorted v5 e b k = k := by rw [Go.Sort.scanSorted, if_neg (by simp only [h]; simp)]
theorem ziW {e : Array Nat} {b k : Nat} (h : k < b) (h2 : ¬ v5 e[k]! e[k - 1]! = true) : Go.Sort.scanSorted v5 e b k = Go.Sort.scanSorted v5 e b (k + 1) := by
 rw [Go.Sort.scanSorted, if_pos (by simp only [h, Bool.eq_false_iff.2 h2]; simp)]
theorem zhF {f : Array Nat} {j : Nat} (h : ¬ j ≥ 1) : Go.Sort.shiftDown v5 j f = f := by
 obtain rfl : j = 0 := by omega
 rfl
theorem zhG {f : Array Nat} {j : Nat} (h : ¬ v5 f[j]! f[j - 1]! = true) : Go.Sort.shiftDown v5 j f = f := by
 cases j with
 | zero => rfl
 | succ j => rw [Go.Sort.shiftDown, if_pos (by simp only [Nat.add_sub_cancel] at h; simp only [Bool.eq_false_iff.2 h]; simp)]
theorem ziX {f : Array Nat} {j : Nat} (h : j ≥ 1) (h2 : v5 f[j]! f[j - 1]! = true) : Go.Sort.shiftDown v5 j f = Go.Sort.shiftDown v5 (j - 1) (Go.Sort.swp f j (j - 1)) := by
 cases j with
 | zero => omega
 | succ j => rw [Go.Sort.shiftDown, if_neg (by simp only [Nat.add_sub_cancel] at h2; simp only [h2]; simp)]; rfl
theorem zhO {f : Array Nat} {b j : Nat} (h : ¬ j < b) : Go.Sort.shiftUp v5 b j f = f := by rw [Go.Sort.shiftUp, if_neg h]
theorem zhP {f : Array Nat} {b j : Nat} (h : j < b) (h2 : ¬ v5 f[j]! f[j - 1]! = true) : Go.Sort.shiftUp v5 b j f = f := by rw [Go.Sort.shiftUp, if_pos h, if_pos (by simp only [Bool.eq_false_iff.2 h2]; simp)]
theorem zi0 {f : Array Nat} {b j : Nat} (h : j < b) (h2 : v5 f[j]! f[j - 1]! = true) : Go.Sort.shiftUp v5 b j f = Go.Sort.shiftUp v5 b (j + 1) (Go.Sort.swp f j (j - 1)) := by rw [Go.Sort.shiftUp, if_pos h, if_neg (by simp only [h2]; simp)]
theorem ziG {e : Array Nat} {a b s i k : Nat} (hs : 0 < s) (hk : Go.Sort.scanSorted v5 e b i = k) (h : k = b) : Go.Sort.partialIns v5 a b s i e = (e, true) := by
 cases s with
 | zero => omega
 | succ s => rw [Go.Sort.partialIns_succ, hk, if_pos h]
theorem zhn {e : Array Nat} {a b s i k : Nat} (hs : 0 < s) (hk : Go.Sort.scanSorted v5 e b i = k) (h : ¬ k = b) (h2 : b - a < 50) : Go.Sort.partialIns v5 a b s i e = (e, false) := by
 cases s with
 | zero => omega
 | succ s => rw [Go.Sort.partialIns_succ, hk, if_neg h, if_pos h2]
theorem BV {e f2 f3 : Array Nat} {a b s i k : Nat} (hs : 0 < s) (hk : Go.Sort.scanSorted v5 e b i = k) (h : ¬ k = b) (h2 : ¬ b - a < 50) (e2 : f2 = Go.Sort.fixDown v5 a k (Go.Sort.swp e k (k - 1))) (e3 : f3 = Go.Sort.fixUp v5 b k f2) : Go.Sort.partialIns v5 a b s i e = Go.Sort.partialIns v5 a b (s - 1) k f3 := by
 cases s with
 | zero => omega
 | succ s => rw [Go.Sort.partialIns_succ, hk, if_neg h, if_neg h2, e3, e2]; rfl
theorem x13 (r : UInt64) : r.toNat * 2 ^ 13 % yE .u64 = (r <<< 13).toNat := by
 rw [UInt64.toNat_shiftLeft]; simp [yE, Nat.shiftLeft_eq]
theorem x17 (r : UInt64) : r.toNat * 2 ^ 17 % yE .u64 = (r <<< 17).toNat := by
 rw [UInt64.toNat_shiftLeft]; simp [yE, Nat.shiftLeft_eq]
theorem x7 (r : UInt64) : r.toNat / 2 ^ 7 = (r >>> 7).toNat := by
 rw [UInt64.toNat_shiftRight]; simp [Nat.shiftRight_eq_div_pow]
theorem kY (r : UInt64) : r.toNat ≤ H1 .u64 := by have := r.toNat_lt; simp only [H1]; omega
theorem FY {a b : Nat} (h : a = b) : Value.int .u64 (a : Int) = Value.int .u64 (b : Int) := by rw [h]
theorem ziA {x : Nat} (h : x < 4294967296) : (UInt64.ofNat x).toNat = x := by rw [UInt64.toNat_ofNat']; exact Nat.mod_eq_of_lt ow
def KZ (a len md : Nat) (d : Array Nat) (i0 : Nat) : Nat → UInt64 × Array Nat
 | 0 => (UInt64.ofNat len, d)
 | c + 1 => Go.Sort.breakStep a len md (KZ a len md d i0 c) (i0 + c)
theorem zjR {a b : Nat} {d : Array Nat} (h : b - a ≥ 8) : Go.Sort.breakPatterns d a b = (KZ a (b - a) (1 <<< Go.Sort.bitsLen (b - a)) d (a + (b - a) / 4 * 2 - 1) 3).2 := by
 simp only [Go.Sort.breakPatterns, if_pos h]; rfl
theorem zjQ {a b : Nat} {d : Array Nat} (h : ¬ b - a ≥ 8) : Go.Sort.breakPatterns d a b = d := by simp only [Go.Sort.breakPatterns, if_neg h]
theorem zjT {a len md idx : Nat} {s : UInt64} {e : Array Nat} (h : (Go.Sort.xorNext s).toNat &&& (md - 1) ≥ len) : Go.Sort.breakStep a len md (s, e) idx = (Go.Sort.xorNext s, Go.Sort.swp e idx (a + (((Go.Sort.xorNext s).toNat &&& (md - 1)) - len))) := by
 simp only [Go.Sort.breakStep, if_pos h]
theorem zjS {a len md idx : Nat} {s : UInt64} {e : Array Nat} (h : ¬ (Go.Sort.xorNext s).toNat &&& (md - 1) ≥ len) : Go.Sort.breakStep a len md (s, e) idx = (Go.Sort.xorNext s, Go.Sort.swp e idx (a + ((Go.Sort.xorNext s).toNat &&& (md - 1)))) := by
 simp only [Go.Sort.breakStep, if_neg h]
theorem zfm {x : Nat} (h : 0 < x) : 1 ≤ 1 <<< Go.Sort.bitsLen x ∧ 1 <<< Go.Sort.bitsLen x ≤ 2 * x := by
 rw [Nat.shiftLeft_eq, Nat.one_mul]
 exact ⟨Nat.two_pow_pos _, Go.Sort.two_pow_bitsLen_le h⟩
theorem KY {x : Nat} (h : x < 4294967296) : K7 x ≤ 32 := (Go.Sort.bitsLen_le_iff x 32).2 h
theorem zg2 {h : Go.Sort.Hint} (e : Go.Sort.hintCode h = 2) : h = .decreasing := by cases h <;> simp [Go.Sort.hintCode] at e ⊢
theorem zg1 {h : Go.Sort.Hint} (e : Go.Sort.hintCode h = 1) : h = .increasing := by cases h <;> simp [Go.Sort.hintCode] at e ⊢
theorem zg0 {h : Go.Sort.Hint} (e : ¬ Go.Sort.hintCode h = 2) : h ≠ .decreasing := fun k => e (by rw [k]; rfl)
def mr : Nat → Nat → List Nat → List Nat
 | _, 0, l => l
 | a, n + 1, l => a :: mr (a + 1) n l
def LK (P : Program) (f : FuncId) : Bool := match P.funcs[f]? with | some fn => !(fn.name == "runtime.NumGoroutine") && !fn.body.isNone | none => false
theorem zjw {P : Program} {f : FuncId} (h : LK P f = true) : p8 P f := by
 unfold LK at h
 split at h
 ·rename_i fn hf
  simp only [Bool.and_eq_true, Bool.not_eq_true'] at h
  obtain ⟨c, hc⟩ : ∃ c, fn.body = some c := by
   cases hb : fn.body with
   | none => simp [hb] at h
   | some c => exact ⟨c, rfl⟩
  exact ⟨fn, hf, h.1, by rw [hc]; rfl⟩
 ·cases h
theorem en {P : Program} {f : FuncId} (h : LK P f = true := by kernel_rfl) : p8 P f := zjw h
def pk : List Nat → List Assn → List Assn
 | [], _ => []
 | i :: is, L => match L.drop i with
  | a :: r => a :: pk is (L.take i ++ r)
  | [] => []
theorem sx (is : List Nat) {L : List Assn} : Sub (pk is L) L := by
 induction is generalizing L with
 | nil => exact sn
 | cons i is ih =>
  unfold pk
  split
  ·rename_i a r h
   refine Sub.trans (Sub.keep a ih) (e5 ?_)
   have e := List.take_append_drop i L
   rw [h] at e
   conv => lhs; rw [← e]
   exact List.perm_middle
  ·exact sn
def py : List Nat → List Assn → List Assn
 | [], L => L
 | i :: is, L => match L.drop i with
  | a :: r => a :: py is (L.take i ++ r)
  | [] => []
theorem sy (is : List Nat) {L : List Assn} : Sub (py is L) L := by
 induction is generalizing L with
 | nil => exact sr
 | cons i is ih =>
  unfold py
  split
  ·rename_i a r h
   refine Sub.trans (Sub.keep a ih) (e5 ?_)
   have e := List.take_append_drop i L
   rw [h] at e
   conv => lhs; rw [← e]
   exact List.perm_middle
  ·exact sn
theorem sT {A B D : List Assn} (h : Sub A B) (k : Sub B D) : Sub A D := Sub.trans h k
theorem cQ {P : Program} {f : FuncId} {args : Array Value} {w : World} {v : Value} (h : Calls P f args w (D0 w [] fun u L => u = v ∧ L = [])) : Calls P f args w (nX w v) := Calls.ret h
abbrev iI (n : Int) : Value := .int .i64 n
abbrev uI (n : Int) : Value := .int .u64 n
abbrev sL (A : y8) (n c : Nat) : Value := .slice A n c
abbrev lW (xs : List Nat) : Prop := ∀ x ∈ xs, x < 18446744073709551616
abbrev pZ (b : Nat) : Value := .pointer (some ⟨b, 0, none⟩)
theorem kx {p : Prop} (h : p := by simp only [maxLen]; omega) : p := h
theorem kr {α : Type} {a b : α} (h : a = b := by kernel_rfl) : a = b := h
theorem dc {p : Prop} (h : p := by decide) : p := h
theorem od {p : Prop} (h : p := by first | (dsimp only; omega) | omega | (show _ ≤ _; dsimp only; omega)) : p := h
theorem bS {p : Prop} (h : p := by simp only [K6, Array.size_setIfInBounds]; omega) : p := h
theorem aS {p : Prop} (h : p := by (try simp only [Array.size_setIfInBounds]); omega) : p := h
theorem rr {α β : Type} {a b : α} {c d : β} (h : a = b := by exact rfl) (k : c = d := by exact rfl) : a = b ∧ c = d := ⟨h, k⟩
theorem tR {C : Ctx} {Q : EQ} {env : Env} {L : List Assn} (h : Q .ret env L := by exact fR ⟨rfl, rfl⟩) : TC C .ret Q env L := a9 h
theorem nb {α : Type} {p : α → Prop} : ∀ b ∈ ([] : List α), p b := fun _ h => nomatch h
theorem fm {α : Type} {p : α → Prop} {a : α} {l : List α} (h : p a) (k : ∀ x ∈ l, p x) : ∀ x ∈ a :: l, p x := List.forall_mem_cons.2 ⟨h, k⟩
theorem dF {p : Prop} [Decidable p] (h : ¬p) : Value.bool (decide p) = .bool false := congrArg Value.bool (decide_eq_false h)
theorem dT {p : Prop} [Decidable p] (h : p) : Value.bool (decide p) = .bool true := congrArg Value.bool (decide_eq_true h)
theorem oa {mods : List Nat} {vars : List (Nat × Value)} {e : Env} (h : ∀ x ∈ vars, e x.1 = x.2 := by exact ag) : Agr mods vars e e := ⟨Out.refl _ _, h⟩
theorem oz {mods : List Nat} {vars : List (Nat × Value)} {env e : Env} (h : Out mods env e := by exact K8) (k : ∀ x ∈ vars, e x.1 = x.2 := by exact ag) : Agr mods vars env e := ⟨h, k⟩
theorem p0 {X : Assn} {A R : List Assn} (h : Sub A R) : Sub (X :: A) (X :: R) := Sub.keep X h
theorem p1 {X a : Assn} {A R : List Assn} (h : Sub A (a :: R)) : Sub (X :: A) (a :: X :: R) := Sub.trans (Sub.keep X h) (e5 pm1)
theorem p2 {X a b : Assn} {A R : List Assn} (h : Sub A (a :: b :: R)) : Sub (X :: A) (a :: b :: X :: R) := Sub.trans (Sub.keep X h) (e5 pm2)
theorem p3 {X a b c : Assn} {A R : List Assn} (h : Sub A (a :: b :: c :: R)) : Sub (X :: A) (a :: b :: c :: X :: R) := Sub.trans (Sub.keep X h) (e5 pm3)
theorem p4 {X a b c d : Assn} {A R : List Assn} (h : Sub A (a :: b :: c :: d :: R)) : Sub (X :: A) (a :: b :: c :: d :: X :: R) := Sub.trans (Sub.keep X h) (e5 pm4)
theorem p5 {X a b c d e : Assn} {A R : List Assn} (h : Sub A (a :: b :: c :: d :: e :: R)) : Sub (X :: A) (a :: b :: c :: d :: e :: X :: R) := Sub.trans (Sub.keep X h) (e5 pm5)
theorem sp {A B : List Assn} (h : Sub A B := by (try dsimp only); repeat (first | exact sn | exact sr | with_reducible refine p0 ?_ | with_reducible refine p1 ?_ | with_reducible refine p2 ?_ | with_reducible refine p3 ?_ | with_reducible refine p4 ?_ | with_reducible refine p5 ?_ | refine p0 ?_ | refine p1 ?_ | refine p2 ?_ | refine p3 ?_ | refine p4 ?_ | refine p5 ?_ | refine sd ?_)) : Sub A B := h
end Go.E
namespace Go.Proofs.YtgdjcmehlhebdaaGreatDoor
open _root_.Go.Proofs.Tryz
open Go.E
set_option maxRecDepth 4000
section stores
variable {C : Ctx} {env : Env} {dst : Option Tmp} {ty : TypeId} {po : String} {af : Array Edge} {gj : Option (Nat × Bool)} {x y : Operand} {T T' : TypeId} {K : Value → List Assn → Prop} {R : List Assn} {A1 A2 : Assn} {b : Nat} {cs : List Value}
theorem W9 (h : i6) (hy : env.ev y = hv h) (k : K undef (Blk b T' (vl (hv h)) :: R)) (hx : env.ev x = .pointer (some ⟨b, 0, none⟩) := by exact rfl) (hs : (C.P.info? T).map (·.size) = some 32 := by exact cT) (hl : 32 = cs.length := by rfl) :
  OpV C ⟨dst, .store T x y, ty, po, af, gj⟩ env (Blk b T' cs :: R) K := j5 hx hy (o5 hs) (N7 _) (by rw [v9]; exact hl) k
theorem HY (h : i6) (hy : env.ev y = hv h) (k : K undef (A1 :: Blk b T' (vl (hv h)) :: R)) (hx : env.ev x = .pointer (some ⟨b, 0, none⟩) := by exact rfl) (hs : (C.P.info? T).map (·.size) = some 32 := by exact cT) (hl : 32 = cs.length := by rfl) :
  OpV C ⟨dst, .store T x y, ty, po, af, gj⟩ env (A1 :: Blk b T' cs :: R) K := F9 hx hy (o5 hs) (N7 _) (by rw [v9]; exact hl) k
variable {L : List Assn} {d : Array Nat} {r : List Value} {e : TypeId} {N c i : Nat} {ki : IntKind}
theorem iB (hx : env.ev x = .slice (some ⟨b, 0, none⟩) N c) (hy : env.ev y = .int ki (i : Int)) (hi : i < N := by omega) (hc : i * 1 < (w7 d r).length := by simp only [K6]; omega) (ht : C.P.underlying T = some (.slice e) := by exact uT) (hz : (C.P.info? e).map (·.size) = some 1 := by exact cT) :
  Qt C (Blk b T' (w7 d r) :: L) ⟨dst, .indexAddr T x y, ty, po, af, gj⟩ env (.pointer ((some ⟨b, 0, none⟩ : y8).map (·.add (i * 1)))) := i5 ht hz hx hy hi (j8 w5) hc
theorem lB (hx : env.ev x = .pointer ((some ⟨b, 0, none⟩ : y8).map (·.add (i * 1)))) (hi : i < d.size := by (try dsimp only); omega) (ho : BT C.P T = true := by exact oT) :
  Qt C (Blk b T' (w7 d r) :: L) ⟨dst, .load T x, ty, po, af, gj⟩ env (.int .u64 ((d[i]! : Nat) : Int)) := a8 hx (A9 (j8 w5) ho (eM hi))
abbrev cP (f : FuncId) (a : Array Value) (w : World) (φ : Value → List Assn → Prop) : Prop := Calls prog f a w (D0 w [] φ)
abbrev cR (f : FuncId) (a : Array Value) (w : World) (v : Value) : Prop := Calls prog f a w (nX w v)
end stores
theorem cells5 : (prog.info? 5).map (·.size) = some 1 := by kernel_rfl
theorem plain223 : prog.plainKey 223 = true := by kernel_rfl
theorem J21 : p8 prog 21 := ⟨_, func21, by kernel_rfl, rfl⟩
theorem J27 : p8 prog 27 := ⟨_, func27, by kernel_rfl, rfl⟩
theorem J35 : p8 prog 35 := ⟨_, func35, by kernel_rfl, rfl⟩
theorem J39 : p8 prog 39 := ⟨_, func39, by kernel_rfl, rfl⟩
theorem J50 : p8 prog 50 := ⟨_, func50, by kernel_rfl, rfl⟩
theorem J55 : p8 prog 55 := ⟨_, func55, by kernel_rfl, rfl⟩
theorem J67 : p8 prog 67 := ⟨_, func67, by kernel_rfl, rfl⟩
theorem J80 : p8 prog 80 := ⟨_, func80, by kernel_rfl, rfl⟩
theorem J84 : p8 prog 84 := ⟨_, func84, by kernel_rfl, rfl⟩
theorem J87 : p8 prog 87 := ⟨_, func87, by kernel_rfl, rfl⟩
theorem J93 : p8 prog 93 := ⟨_, func93, by kernel_rfl, rfl⟩
theorem J94 : p8 prog 94 := ⟨_, func94, by kernel_rfl, rfl⟩
theorem J95 : p8 prog 95 := ⟨_, func95, by kernel_rfl, rfl⟩
theorem J96 : p8 prog 96 := ⟨_, func96, by kernel_rfl, rfl⟩
theorem J114 : p8 prog 114 := ⟨_, func114, by kernel_rfl, rfl⟩
theorem J149 : p8 prog 149 := ⟨_, func149, by kernel_rfl, rfl⟩
theorem J176 : p8 prog 176 := ⟨_, func176, by kernel_rfl, rfl⟩
theorem J183 : p8 prog 183 := ⟨_, func183, by kernel_rfl, rfl⟩
theorem J187 : p8 prog 187 := ⟨_, func187, by kernel_rfl, rfl⟩
theorem J189 : p8 prog 189 := ⟨_, func189, by kernel_rfl, rfl⟩
theorem J205 : p8 prog 205 := ⟨_, func205, by kernel_rfl, rfl⟩
theorem J206 : p8 prog 206 := ⟨_, func206, by kernel_rfl, rfl⟩
theorem elem5 : S3 prog 5 1 1 := S4 (by kernel_rfl)
theorem elem40 : S3 prog 40 1 8 := S4 (by kernel_rfl)
theorem elem49 : S3 prog 49 32 32 := S4 (by kernel_rfl)
theorem elem112 : S3 prog 112 1 24 := S4 (by kernel_rfl)
theorem elem114 : S3 prog 114 2 48 := S4 (by kernel_rfl)
theorem elem115 : S3 prog 115 2 48 := S4 (by kernel_rfl)
theorem elem264 : S3 prog 264 2 16 := S4 (by kernel_rfl)
theorem mixed : prog.follows .mixedOrders = true := by kernel_rfl
theorem zjz (x : W) (k : Nat) (h1 : 1 ≤ k) (h2 : k ≤ 31) (w0) : cR 212 #[.int .u32 (x.toNat : Int), iI (-(k : Int))] w0 (.int .u32 ((HL x k).toNat : Int)) := by
 refine cQ (co 17 [.tmp 4] func212 ?_)
 refine gw ?_
 refine e6 (zdc uT uT rfl h1 ow) (e6 (n8 (fN (b := 31) rfl rfl km km) (by rw [ziS h1 h2])) (gw ?_))
 refine e6 (jZ rfl rfl ow) (gw ?_)
 refine e6 (o7 (a := 32) rfl rfl ow km) (e6 (aQ rfl rfl) (e6 (nV rfl rfl) (gw ?_)))
 refine a9 (fR ?_)
 exact ⟨by rw [ziQ x ow]; rfl, rfl⟩
theorem gP (x : W) (k : Nat) (h1 : 1 ≤ k) (h2 : k ≤ 31) (w0) : cR 199 #[.int .u32 (x.toNat : Int), iI k] w0 (.int .u32 ((HL x k).toNat : Int)) := by
 refine cQ (co 9 [.tmp 4] func199 ?_)
 refine gw ?_
 refine e6 (zh2 rfl (IntWalk.i64_in _ ow)) (u7 en (fun w hw => zjz x k h1 h2 w) (gw ?_))
 exact tR
theorem cV (x : W) (k : Nat) (h1 : 1 ≤ k) (h2 : k ≤ 31) (w0) : cR 181 #[.int .u32 (x.toNat : Int), iI k] w0 (.int .u32 ((HL x k).toNat : Int)) := by
 refine cQ (co 15 [.tmp 4] func181 ?_)
 refine gw ?_
 refine e6 (r8 uT uT rfl km) (e6 (aQ rfl rfl) (gw ?_))
 refine e6 (o7 (a := 32) rfl rfl ow km) (e6 (r8 uT uT rfl km) (e6 (jZ rfl rfl ow) (e6 (nV rfl rfl) (gw ?_))))
 exact tR
theorem zjG (A) (c : Nat) (b : List UInt8) (w0) (hR : Ro w0 [] (SlA A (e9 b))) (h : b.length = 4) : cR 211 #[sL A 4 c] w0 (.int .u32 ((lA b 0).toNat : Int)) := by
 refine cQ (co 25 [.tmp 2] func211 ?_)
 refine gw ?_
 refine dr ([], []) (gw ?_)
 refine c6 1 rfl (i5 (i := 0) uT cT rfl rfl ow (c9 hR) (by rw [o3]; omega)) (c6 2 rfl (a8 rfl (A9 (c9 hR) oT (uS ow rfl))) (c6 3 rfl (gU uT uT rfl) (c6 4 rfl (jZ (s := 24) rfl rfl ow) (gw ?_))))
 refine c6 6 rfl (i5 (i := 1) uT cT rfl rfl ow (c9 hR) (by rw [o3]; omega)) (c6 7 rfl (a8 rfl (A9 (c9 hR) oT (uS ow rfl))) (c6 8 rfl (gU uT uT rfl) (c6 9 rfl (jZ (s := 16) rfl rfl ow) (c6 10 rfl (nV rfl rfl) (gw ?_)))))
 refine c6 12 rfl (i5 (i := 2) uT cT rfl rfl ow (c9 hR) (by rw [o3]; omega)) (c6 13 rfl (a8 rfl (A9 (c9 hR) oT (uS ow rfl))) (c6 14 rfl (gU uT uT rfl) (c6 15 rfl (jZ (s := 8) rfl rfl ow) (c6 16 rfl (nV rfl rfl) (gw ?_)))))
 refine c6 18 rfl (i5 (i := 3) uT cT rfl rfl ow (c9 hR) (by rw [o3]; omega)) (c6 19 rfl (a8 rfl (A9 (c9 hR) oT (uS ow rfl))) (c6 20 rfl (gU uT uT rfl) (c6 21 rfl (nV rfl rfl) (gw ?_))))
 exact p7 (tR)
theorem zhN (bl : List UInt8) (hb : bl.length = 64) (w0) : cR 198 #[.agg (e9 bl).toArray] w0 (.agg (M5 (bW bl 64)).toArray) := by
 refine cQ (co 60 [.cell 2 302] func198 ?_)
 refine gw ?_
 intro b1
 refine gw ?_
 intro b2
 refine gw ?_
 intro b3
 refine gw ?_
 refine l5 (γ := Nat) (mr 4 55 []) (fun k => [(7, iI k)]) (fun k => [Blk b3 302 (M5 (R3 bl k)), Blk b2 302 (List.replicate 64 (.int .u32 0)), Blk b1 289 (e9 bl)]) (fun k => k ≤ 64) (fun k => 64 - k) (0)
  ow oa ((by rw [tC]; exact sr)) ?_
 rintro k u hk
 refine gw ?_
 refine j0 rfl rfl (p9 (b := 64) rfl rfl) (fun h8 => gw ?_) (fun h8 => gw ?_)
 ·refine j0 rfl rfl (p9 (b := 16) rfl rfl) (fun h11 => gw ?_) (fun h11 => gw ?_)
  ·refine e6 (F3 (a := 4) rfl rfl km) (gw ?_)
   refine e6 (F3 (a := 4) rfl rfl km) (e6 (v4 (b := 4) rfl rfl km) (e6 (n8 (v' := sL (some ⟨b1, 0 + 4 * k * 1, none⟩) 4 (64 - 4 * k)) (zaq uT cT rfl rfl rfl ow ow ow) (by rw [show 4 * k + 4 - 4 * k = 4 by omega])) ?_))
   refine u7 en (fun w hw => zjG _ _ _ w (za5 (Rd.at 2 rfl) (0 + 4 * k * 1) 4 w hw) (sN _ _ _ ow)) (e6 (n7 uT cT rfl rfl ow) (j9 rfl (q6 rfl cw cT rfl rfl (by rw [u4, C0 bl ow]; omega) (by rw [Nat.zero_add, Nat.mul_one, kZ, jP bl ow _ (by rw [zgm, wD, if_pos h11]; simp)]) (gw ?_))))
   refine i7 (c7 (gw ?_))
   exact ⟨k + 1, od, od, oz, sr⟩
  ·refine dw ([], []) (gw ?_)
   refine c6 1 rfl (o7 (b := 15) rfl rfl ow km) (c6 2 rfl (n7 uT cT rfl rfl ow) (c6 3 rfl (a8 rfl (i9 w5 oT (z3 (i := k - 15) (by rw [C0 bl ow]; omega) ow))) (gw ?_)))
   refine c6 5 rfl (o7 (b := 2) rfl rfl ow km) (c6 6 rfl (n7 uT cT rfl rfl ow) (c6 7 rfl (a8 rfl (i9 w5 oT (z3 (i := k - 2) (by rw [C0 bl ow]; omega) ow))) (gw ?_)))
   refine p7 (D1 ([29], []) mixed (sd (sk (sk I8))) (gw ?_))
   refine c6 2 rfl (o7 (b := 16) rfl rfl ow km) (c6 3 rfl (n7 uT cT rfl rfl ow) (c6 4 rfl (a8 rfl (i9 w5 oT (z3 (i := k - 16) (by rw [C0 bl ow]; omega) ow))) (gw ?_)))
   refine I7 6 rfl en (fun w hw => gP _ 7 dc dc w) (gw ?_)
   refine I7 8 rfl en (fun w hw => gP _ 18 dc dc w) (c6 9 rfl (K5 rfl rfl) (gw ?_))
   refine c6 11 rfl (aQ (s := 3) rfl rfl) (c6 12 rfl (K5 rfl rfl) (c6 13 rfl (E5 rfl rfl) (gw ?_)))
   refine c6 15 rfl (o7 (b := 7) rfl rfl ow km) (c6 16 rfl (n7 uT cT rfl rfl ow) (c6 17 rfl (a8 rfl (i9 w5 oT (z3 (i := k - 7) (by rw [C0 bl ow]; omega) ow))) (c6 18 rfl (E5 rfl rfl) (gw ?_))))
   refine I7 20 rfl en (fun w hw => gP _ 17 dc dc w) (gw ?_)
   refine I7 22 rfl en (fun w hw => gP _ 19 dc dc w) (c6 23 rfl (K5 rfl rfl) (gw ?_))
   refine c6 25 rfl (aQ (s := 10) rfl rfl) (c6 26 rfl (K5 rfl rfl) (c6 27 rfl (E5 rfl rfl) (c6 28 rfl (n7 uT cT rfl rfl ow) (F7 29 rfl (q6 rfl cw cT rfl rfl (by rw [u4, C0 bl ow]; omega) (by rw [Nat.zero_add, Nat.mul_one, kZ, jP bl ow _ (by rw [wD, if_neg h11, Z6 bl ow, Z6 bl ow, Z6 bl ow, Z6 bl ow]; rfl)]) (G0 ?_))))))
   refine p7 (gw ?_)
   exact ⟨k + 1, od, od, oz, sr⟩
 ·refine i7 (c8 (gw ?_))
  refine e6 (a8 rfl (i4 w5 rT (by rw [u4, C0 bl ow]; exact ce302))) (j9 rfl (F9 (v := .agg (M5 (R3 bl k)).toArray) rfl rfl (by rw [o6, u4, C0 bl ow]; exact ce302) (bZ _) (by rw [o6, u4, C0 bl ow]; rfl) (gw ?_)))
  refine a9 (finQ.ret (j7 rfl (i4 N3 rT (by rw [o6, u4, C0 bl ow]; exact ce302)) n9) sn ?_)
  have e : R3 bl k = bW bl 64 := by rw [show k = 64 by omega, xH]
  rw [← e]
  exact rr
theorem zar (s : List W) (bl : List UInt8) (ws : List W) (hs : s.length = 8) (hb : bl.length = 64) (hws : ws = bW bl 64) (hwl : ws.length = 64) (w0) (hT : Tabs 3 1 w0 []) :
  cP 173 #[.agg (M5 s).toArray, .agg (e9 bl).toArray] w0 fun v L => v = .agg (M5 (mJ (dX s ws 64) s)).toArray ∧ L = [] := by
 refine co 110 [.cell 4 224] func173 ?_
 refine gw ?_
 intro b2
 refine gw ?_
 intro b3
 refine gw ?_
 intro b4
 refine gw ?_
 refine e6 (a8 rfl (i4 aH rT (by rw [o6, u4, hs]; exact ce224))) (gw ?_)
 intro b5
 refine j9 rfl (j5 (v := .agg (M5 s).toArray) rfl rfl (by rw [o6, u4, hs]; exact ce224) (bZ _) (by rw [o6, u4, hs]; rfl) ?_)
 refine gw ?_
 refine e6 (a8 rfl (i4 aH rT (by rw [o6, o3, hb]; exact ce289))) (u7 en (fun w hw => (by rw [hws]; exact zhN bl hb w : cR 198 #[.agg (e9 bl).toArray] w (.agg (M5 ws).toArray))) (gw ?_))
 refine l5 (γ := Nat) (mr 20 77 (mr 6 10 [])) (fun k => [(20, iI k)]) (fun k => [Blk b5 224 (M5 (dX s ws k)), Blk b4 224 (List.replicate 8 (.int .u32 0)), Blk b3 289 (e9 bl), Blk b2 224 (M5 s)]) (fun k => k ≤ 64) (fun k => 64 - k) (0)
  ow oa sr ?_
 rintro k u hk
 refine gw ?_
 refine j0 rfl rfl (p9 (b := 64) rfl rfl) (fun h21 => gw ?_) (fun h21 => gw ?_)
 ·refine e6 (nU uT cT plain223 rfl rfl ow (AX (by rw [hwl]; omega))) (gw ?_)
  refine dw ([], []) (gw ?_)
  refine c6 1 rfl (a8 rfl (i9 w5 oT (z3 (i := 0) (by rw [R9 hs]; decide) rfl))) (gw ?_)
  refine c6 3 rfl (a8 rfl (i9 w5 oT (z3 (i := 1) (by rw [R9 hs]; decide) rfl))) ?_
  refine c6 4 rfl (n7 (i := 2) uT cT rfl rfl ow) (c6 5 rfl (a8 rfl (i9 w5 oT (z3 (i := 2) (by rw [R9 hs]; decide) rfl))) ?_)
  refine c6 6 rfl (n7 (i := 4) uT cT rfl rfl ow) (c6 7 rfl (a8 rfl (i9 w5 oT (z3 (i := 4) (by rw [R9 hs]; decide) rfl))) ?_)
  refine c6 8 rfl (n7 (i := 5) uT cT rfl rfl ow) (c6 9 rfl (a8 rfl (i9 w5 oT (z3 (i := 5) (by rw [R9 hs]; decide) rfl))) ?_)
  refine c6 10 rfl (n7 (i := 6) uT cT rfl rfl ow) (c6 11 rfl (a8 rfl (i9 w5 oT (z3 (i := 6) (by rw [R9 hs]; decide) rfl))) (gw ?_))
  refine p7 (gw ?_)
  refine dw ([], []) (c6 0 rfl (n7 (i := 7) uT cT rfl rfl ow) (c6 1 rfl (a8 rfl (i9 w5 oT (z3 (i := 7) (by rw [R9 hs]; decide) rfl))) (gw ?_)))
  refine I7 3 rfl en (fun w hw => gP _ 6 dc dc w) (gw ?_)
  refine I7 5 rfl en (fun w hw => gP _ 11 dc dc w) (c6 6 rfl (K5 rfl rfl) (gw ?_))
  refine I7 8 rfl en (fun w hw => gP _ 25 dc dc w) (c6 9 rfl (K5 rfl rfl) (c6 10 rfl (E5 rfl rfl) (gw ?_)))
  refine c6 13 rfl (aP rfl rfl) (gw ?_)
  refine c6 15 rfl (CV rfl) (gw ?_)
  refine c6 17 rfl (aP rfl rfl) (c6 18 rfl (K5 rfl rfl) (c6 19 rfl (E5 rfl rfl) (gw ?_)))
  refine c6 21 rfl (n7 uT cT rfl rfl ow) (c6 22 rfl (a8 rfl (II (c9 hT.1) oT (z3 (i := k) (by rw [rE]; omega) ow))) (c6 23 rfl (E5 rfl rfl) (gw ?_)))
  refine c6 25 rfl (E5 rfl rfl) (gw ?_)
  refine p7 (gw ?_)
  refine u7 en (fun w hw => gP _ 2 dc dc w) (gw ?_)
  refine u7 en (fun w hw => gP _ 13 dc dc w) (e6 (K5 rfl rfl) (gw ?_))
  refine u7 en (fun w hw => gP _ 22 dc dc w) (e6 (K5 rfl rfl) (gw ?_))
  refine e6 (aP rfl rfl) (gw ?_)
  refine e6 (aP rfl rfl) (e6 (K5 rfl rfl) (gw ?_))
  refine e6 (aP rfl rfl) (e6 (K5 rfl rfl) (e6 (E5 rfl rfl) (gw ?_)))
  refine e6 (E5 rfl rfl) (gw ?_)
  refine e6 (n7 (i := 3) uT cT rfl rfl ow) (e6 (a8 rfl (i9 w5 oT (z3 (i := 3) (by rw [R9 hs]; decide) rfl))) (gw ?_))
  refine e6 (E5 rfl rfl) (gw ?_)
  refine e6 (C8 (v := .agg (M5 (LG (dX s ws k) (K256.getD k 0) (ws.getD k 0))).toArray) rfl (fun _ => by kernel_rfl)) (j9 rfl (j5 (v := .agg (M5 (LG (dX s ws k) (K256.getD k 0) (ws.getD k 0))).toArray) rfl rfl (by rw [o6, u4, xC]; exact ce224) (bZ _) (by rw [o6, u4, u4, xC, R9 hs]) ?_))
  refine gw ?_
  exact ⟨k + 1, od, od, oz, sr⟩
 ·refine i7 (c8 (gw ?_))
  refine l5 (γ := Nat) (mr 97 12 [16]) (fun j => [(97, iI j)]) (fun j => [Blk b5 224 (M5 (oB (dX s ws k) s j)), Blk b4 224 (List.replicate 8 (.int .u32 0)), Blk b3 289 (e9 bl), Blk b2 224 (M5 s)]) (fun j => j ≤ 8) (fun j => 8 - j) (0)
   ow oa ((by rw [zeD _ (R9 hs _ _)]; exact sr)) ?_
  rintro j u hj
  refine gw ?_
  refine j0 rfl rfl (p9 (b := 8) rfl rfl) (fun h98 => gw ?_) (fun h98 => gw ?_)
  ·refine D1 ([8], []) mixed (sd (sk (sk (sk I8)))) (gw ?_)
   refine c6 1 rfl (n7 uT cT rfl rfl ow) (c6 2 rfl (a8 rfl (i9 w5 oT (z3 (i := j) (by rw [V7]; omega) ow))) (gw ?_))
   refine c6 4 rfl (n7 uT cT rfl rfl ow) (c6 5 rfl (a8 rfl (i9 tV oT (z3 (i := j) (by rw [hs]; omega) ow))) ?_)
   refine c6 6 rfl (E5 rfl rfl) (c6 7 rfl (n7 uT cT rfl rfl ow) (F7 8 rfl (q6 rfl cw cT rfl rfl (by rw [u4, V7]; omega) (by rw [Nat.zero_add, Nat.mul_one, zgC _ _ ow, kZ, zgD _ _ ow]) (G0 ?_))))
   refine p7 (gw ?_)
   exact ⟨j + 1, od, od, oz, sr⟩
  ·refine i7 (c8 (gw ?_))
   refine e6 (a8 rfl (i4 w5 rT (by rw [u4, V7]; exact ce224))) (j9 rfl (F9 (v := .agg (M5 (oB (dX s ws k) s j)).toArray) rfl rfl (by rw [o6, u4, V7]; exact ce224) (bZ _) (by rw [o6, u4, V7]; rfl) (gw ?_)))
   refine a9 (finQ.ret (j7 rfl (i4 N3 rT (by rw [o6, u4, V7]; exact ce224)) n9) sn ?_)
   have e : oB (dX s ws k) s j = mJ (dX s ws 64) s := by rw [show j = 8 by omega, show k = 64 by omega, zgB]
   rw [← e]
   exact rr
theorem zdu (s : List W) (bl : List UInt8) (hs : s.length = 8) (hb : bl.length = 64) (w0) (hT : Tabs 3 1 w0 []) : cR 173 #[.agg (M5 s).toArray, .agg (e9 bl).toArray] w0 (.agg (M5 (BJ s bl)).toArray) :=
 cQ (zar s bl (bW bl 64) hs hb rfl (W3 bl 64) w0 hT)
theorem uZ (A) (c : Nat) (b : List UInt8) (w0) (hR : Ro w0 [] (SlA A (e9 b))) (hl : b.length ≤ 70368744177664) :
  cP 197 #[sL A b.length c] w0 fun v L => ∃ O d, v = sL O b.length d ∧ L = [OwnA 5 1 O b.length d (e9 b)] := by
 refine co 8 [.tmp 2] func197 ?_
 refine m6 5 1 (gw ?_)
 refine e6 (tM uT rfl) (gw ?_)
 refine eK rfl (fun hn => gw ?_) (fun hn => gw ?_)
 ·refine a9 (D7 sr ?_)
  obtain rfl : A = none := Option.isNone_iff_eq_none.1 hn
  obtain rfl : b = [] := uW (dP hR.1)
  exact ⟨none, 0, rfl, rfl⟩
 ·refine z7 (eH uT ⟨_, elem5⟩ (fun g5 => ?_))
  refine gw ?_
  refine z7 (Y6 (news := e9 b) uT elem5 rfl rfl (c9 hR) (by rw [o3]; omega) (r9 _) kx ow (fun O d => ?_))
  refine gw ?_
  refine a9 (D7 (sk (sd sn)) ?_)
  exact ⟨O, d, by rw [Nat.zero_add]; rfl, by rw [Nat.zero_add, List.nil_append]⟩
theorem zhk (A) (c : Nat) (b : List UInt8) (w0) (hR : Ro w0 [] (SlA A (e9 b))) (hl : b.length ≤ 70368744177664) :
  cP 172 #[sL A b.length c] w0 fun v L => ∃ O d, v = sL O (V1 b).length d ∧ L = [OwnA 5 1 O (V1 b).length d (e9 (V1 b))] := by
 refine co 31 [.tmp 2] func172 ?_
 refine gw ?_
 refine z9 en (fun w hw => uZ A c b w (Rd.ro hR w hw) hl) ?_
 rintro v L' ⟨O, d, rfl, rfl⟩
 refine z7 (m5 (v := .int .u8 ↑((128 : UInt8).toNat)) uT elem5 dc rfl rfl (fun g7 => (z7 (G1 (news := e9 [128]) uT elem5 rfl rfl (j8 w5) (rfl) (r9 _) kx ow (fun O' d' => ?_)))))
 have hnl : I4 b.length < 64 := Nat.mod_lt _ dc
 refine gw ?_
 refine l5 (γ := Nat × y8 × Nat) (mr 9 7 [3]) (fun g => [(3, sL g.2.1 (b.length + 1 + g.1) g.2.2)]) (fun g => [OwnA 5 1 g.2.1 (b.length + 1 + g.1) g.2.2 (e9 (wK b g.1))]) (fun g => g.1 ≤ I4 b.length) (fun g => I4 b.length - g.1) ((0, O', d'))
  (Nat.zero_le _) oa ((by dsimp only; rw [← zN]; exact sd sr)) ?_
 rintro ⟨j, O, d⟩ u hj
 dsimp only at hj
 refine gw ?_
 refine e6 (V9 (b := 64) rfl rfl ow) (j0 rfl rfl (C7 (b := 56) rfl rfl) (fun h12 => gw ?_) (fun h12 => gw ?_))
 ·refine z7 (m5 (v := .int .u8 ↑((0 : UInt8).toNat)) uT elem5 dc rfl rfl (fun g14 => (z7 (G1 (news := e9 [0]) uT elem5 rfl rfl (j8 w5) (rfl) (r9 _) kx ow (fun O2 d2 => (gw ?_))))))
  refine ⟨(j + 1, O2, d2), ?_, ?_, oz, (by dsimp only; rw [← zM]; exact sd sr)⟩
  ·have := sI hj h12
   show _ ≤ _; dsimp only; omega
  ·have := sI hj h12
   show _ < _; dsimp only; omega
 ·refine i7 (c8 (c8 (c7 (C3 (l3 (C5 ?_))))))
  obtain rfl := zdS hj (Decidable.byContradiction h12)
  refine l5 (γ := Nat × y8 × Nat) (mr 16 14 [3, 4]) (fun g => [(4, iI (56 - 8 * (g.1 : Int))), (3, sL g.2.1 (b.length + 1 + I4 b.length + g.1) g.2.2)]) (fun g => [OwnA 5 1 g.2.1 (b.length + 1 + I4 b.length + g.1) g.2.2 (e9 (yD b g.1))]) (fun g => g.1 ≤ 8) (fun g => 8 - g.1) ((0, O, d))
   (Nat.zero_le _) oa ((by dsimp only; rw [zP]; exact sr)) ?_
  rintro ⟨i, O, d⟩ u hi
  dsimp only at hi
  refine gw ?_
  refine j0 rfl rfl (eI rfl rfl) (fun h17 => gw ?_) (fun h17 => gw ?_)
  ·refine e6 (r8 uT uT rfl km) (e6 (F3 (a := 8) rfl rfl km) (e6 (n8 (m8 rfl) (congrArg (Value.int .i64) (show (56 - 8 * (i : Int)) = ((56 - 8 * i : Nat) : Int) by omega))) ?_))
   refine e6 (G5 rfl rfl km) (e6 (U4 uT uT rfl) (z7 (m5 (v := .int .u8 ((UInt8.ofNat (8 * b.length / 2 ^ (56 - 8 * i))).toNat : Nat)) uT elem5 dc rfl rfl (fun g28 => (z7 (G1 (news := e9 [UInt8.ofNat (8 * b.length / 2 ^ (56 - 8 * i))]) uT elem5 rfl rfl (j8 w5) (rfl) (r9 _) kx ow (fun O2 d2 => (gw ?_))))))))
   refine e6 (cM rfl rfl (IntWalk.i64_in _ ow)) (gw ?_)
   refine ⟨(i + 1, O2, d2), ?_, ?_, ⟨?_, (fm (by show iI (56 - 8 * (i : Int) - 8) = iI (56 - 8 * ((i + 1 : Nat) : Int)); congr 1; omega) ag)⟩, (by dsimp only; rw [← zO b ow]; exact sd sr)⟩
   ·show _ ≤ _; dsimp only; omega
   ·show _ < _; dsimp only; omega
   exact K8
  ·refine i7 (c8 (gw ?_))
   refine a9 (D7 sr ?_)
   obtain rfl : i = 8 := by omega
   have e := dD b
   exact ⟨O, d, by rw [e]; rfl, by rw [e, EF b ow]⟩
theorem zdp (A) (N c n : Nat) (hn : 1 ≤ n) (w0) :
  cP 171 #[sL A N c, iI n] w0 fun v L => ∃ b2 b3, v = .func (.func 196) #[] #[pZ b2, pZ b3] ∧ L = [Blk b3 3 [iI n], Blk b2 112 [sL A N c]] := by
 refine co 9 [.tmp 4] func171 ?_
 refine gw ?_
 intro b2
 refine gw ?_
 intro b3
 refine gw ?_
 refine e6 (Qt.dF (p9 (b := 1) rfl rfl) ow) (gw ?_)
 refine e6 (E9 (fs := []) (cs := [pZ b2, pZ b3]) rfl rfl) (gw ?_)
 refine a9 (D7 sr ?_)
 exact ⟨_, _, rfl, rfl⟩
theorem zcj (A) (m c n : Nat) (hn : 1 ≤ n) (hc : n * m ≤ c) (hc2 : c ≤ 9223372036854775807) (b2 b3 l : Nat) (J : Bool → List (Fin m) → List Assn → Prop) (w0) (L0 : List Assn) (h0 : Sat w0 L0) (hJ : J true [] L0) (hB2 : Ro w0 (A8 L0) (Blk b2 112 [sL A (n * m) c])) (hB3 : Ro w0 (A8 L0) (Blk b3 3 [iI n]))
  (hY : ∀ pre x w' L', J true pre L' → St w0 (A8 L0) L' w' → YieldAt Fence.wide 0 prog l ((fun i : Fin m => [sL (A.map (·.add (n * i.val * 1))) n n]) x).toArray w' fun e w'' => ∃ L'', St w' (A8 L') L'' w'' ∧ ((e = .returned (.bool true) ∧ J true (pre ++ [x]) L'') ∨ (e = .returned (.bool false) ∧ J false (pre ++ [x]) L''))) :
  Calls prog 196 #[.func (.yield l) #[] #[], pZ b2, pZ b3] w0 (D0 w0 (A8 L0) fun v L => (∃ xs, xs = List.finRange m ∧ J true xs L) ∨ (∃ pre, True ∧ J false pre L)) := by
 refine gW (L := L0) 31 [] func196 h0 ?_
 refine gw ?_
 refine l5 (γ := Nat × List Assn) (mr 4 27 []) (fun g => [(4, iI ↑(n * g.1))]) (fun g => g.2) (fun g => g.1 ≤ m ∧ J true ((List.finRange m).take g.1) g.2) (fun g => m - g.1) ((0, L0))
  ⟨Nat.zero_le _, hJ⟩ oa sr ?_
 rintro ⟨k, Z⟩ u ⟨hk, hj⟩
 dsimp only at hk hj
 refine gw ?_
 refine j0 rfl rfl (p9 rfl rfl) (fun h9 => gw ?_) (fun h9 => gw ?_)
 ·refine dw ([], []) ?_
  have hkm : k < m := Nat.lt_of_mul_lt_mul_left (a := n) h9
  have hkn : n * k + n ≤ n * m := by rw [← Nat.mul_succ]; exact Nat.mul_le_mul_left _ hkm
  have hkn2 : n * (k, Z).fst + n ≤ n * m := hkn
  refine gw ?_
  refine c6 3 rfl (D3 uT cT rfl rfl ow) (gw ?_)
  refine c6 5 rfl (n8 (GC rfl rfl) (by rw [Nat.min_eq_left (show n ≤ n * m - n * k by omega)])) (gw ?_)
  refine p7 (gw ?_)
  refine e6 (v4 rfl rfl km) (gw ?_)
  refine e6 (v4 rfl rfl km) (e6 (n8 (v' := sL (A.map (·.add (n * k * 1))) n n) (yP uT cT rfl rfl rfl rfl ow ow ow) (by rw [if_neg ow, show n * k + n - n * k = n by omega])) ?_)
  refine z7 (zeu (L1 := []) (enc := (fun i : Fin m => [sL (A.map (·.add (n * i.val * 1))) n n])) ⟨k, hkm⟩ hY rfl rfl hj (fun Z2 hj2 => ?_) (fun Z2 hj2 => ?_))
  ·rw [← X9 hkm] at hj2
   refine gw ?_
   refine e6 (v4 rfl rfl km) (gw ?_)
   refine ⟨(k + 1, Z2), ?_, od, oz, sr⟩
   exact ⟨by show _ ≤ _; dsimp only; omega, hj2⟩
  ·refine gw ?_
   exact a9 (finQ.ret n9 sr (.inr ⟨_, trivial, hj2⟩))
 ·refine i7 (finQ.normal n9 sr ?_)
  have hkm : m ≤ k := Nat.le_of_mul_le_mul_left (Nat.le_of_not_lt h9) hn
  obtain rfl : k = m := by omega
  rw [dS] at hj
  exact .inl ⟨_, rfl, hj⟩
theorem zeL (A) (m c n : Nat) (hn : 1 ≤ n) (hc : n * m ≤ c) (hc2 : c ≤ 9223372036854775807) (b2 b3 : Nat) (w) (L0 : List Assn) (h0 : Sat w L0) (hB2 : Ro w (A8 L0) (Blk b2 112 [sL A (n * m) c])) (hB3 : Ro w (A8 L0) (Blk b3 3 [iI n])) :
  LN prog 196 #[pZ b2, pZ b3] (fun i : Fin m => [sL (A.map (·.add (n * i.val * 1))) n n]) (fun xs => xs = List.finRange m) (fun _ => True) w L0 := fun l J hJ hY =>
 zcj A m c n hn hc hc2 b2 b3 l J w L0 h0 hJ hB2 hB3 hY
theorem fC (A) (c : Nat) (b : List UInt8) (w0) (hR : Ro w0 [] (SlA A (e9 b))) (hl : b.length ≤ 70368744177664) (hT : Tabs 3 1 w0 []) :
  cP 114 #[sL A b.length c] w0 fun v L => v = hv (K3 b) ∧ L = [] := by
 refine co 41 [.cell 2 49] func114 ?_
 obtain ⟨m, hm⟩ : ∃ m, (V1 b).length = 64 * m := ⟨(V1 b).length / 64, by have := EG b; omega⟩
 have hpl := dD b
 have hnl : I4 b.length < 64 := Nat.mod_lt _ dc
 refine gw ?_
 intro b2
 refine gw ?_
 refine e6 (a8 rfl (FL (vs := M5 I256) (c9 hT.2) rT (by rw [u4, fI]; exact ce224) dc (fun _ _ h => h))) (gw ?_)
 intro b3
 refine j9 rfl (j5 (v := .agg (M5 I256).toArray) rfl rfl (by rw [o6, u4, fI]; exact ce224) (bZ _) (rfl) (gw ?_))
 refine z9 en (fun w hw => zhk A c b w (Rd.ro hR w hw) hl) ?_
 rintro v L' ⟨O, d, rfl, rfl⟩
 refine z9 en (fun w hw => zdp O (V1 b).length d 64 dc w) ?_
 rintro v L' ⟨c2, c3, rfl, rfl⟩
 refine gw ?_
 refine zh5 aH (fun _ h => H2 h) (fun hdc => ?_)
 rw [hm] at hdc ⊢
 refine za6 (α := Fin m) (fun i : Fin m => [sL (O.map (·.add (64 * i.val * 1))) 64 64]) (fun xs => xs = List.finRange m) (fun _ => True) (fun pre L' => L' = [Blk b3 224 (M5 (rC (V1 b) pre))]) (fun _ _ _ => False) (L0 := [Blk b3 224 (M5 (rC (V1 b) ([] : List (Fin m))))]) rfl rfl en rfl (fun _ => rfl) (pm3 (l₂ := [_])) rfl (fun w L' hw => zeL O m d 64 dc hdc.1 (by have := hdc.2.1; simp only [maxLen] at this; omega) c2 c3 w L' hw.sat.left (y9 hw (.tail _ (.head _))) (y9 hw (.head _))) ?_ ?_ (fun _ _ _ _ _ h => h.elim)
 ·rintro w' l Dd Rr Rb pre x L' rfl hst
  have hO : Ro w' (A8 [Rr, eQ Dd, Blk b3 224 (M5 (rC (V1 b) pre))]) (SlA (O.map (·.add (64 * x.val * 1))) (e9 (jR (V1 b) x.val))) := by
   rw [show jR (V1 b) x.val = ((V1 b).drop (64 * x.val * 1)).take 64 by rw [Nat.mul_one]; rfl]
   exact nY (Ro.own (y9 hst (.tail _ (.tail _ (.head _))))) (64 * x.val * 1) 64
  have hT2 := Tabs.pre hT hst
  refine gw ?_
  refine ⟨_, sr, ?_⟩
  refine gw ?_
  refine D1 ([5], []) mixed (sk (sk (sd I8))) (c6 0 rfl (a8 rfl (i4 aH rT (by rw [u4, gE]; exact ce224))) (gw ?_))
  refine c6 2 rfl (zgt uT rfl (Nat.le_refl _)) (c6 3 rfl (a8 rfl (FL (vs := e9 (jR (V1 b) x)) (c9 hO) rT (by rw [o3, dR x.2 hm]; exact ce289) (by rw [o3, dR x.2 hm]; decide) (fun _ _ h => h))) (I7 4 rfl en (fun w hw => zdu _ _ (gE _ _) (dR x.2 hm) w (hT2.at hw)) (F7 5 rfl (K9 (v := .agg (M5 (BJ (rC (V1 b) pre) (jR (V1 b) x))).toArray) rfl rfl (by rw [o6, u4, fQ]; exact ce224) (bZ _) (by rw [o6, u4, u4, fQ, gE]) (G0 ?_)))))
  refine p7 ?_
  refine ⟨_, sr, (congrArg (fun z => [Blk b3 224 (M5 z)]) (AL (V1 b) pre x)).symm⟩
 ·rintro Dd xs L' rfl rfl
  obtain ⟨s, hsd⟩ : ∃ s, s = rC (V1 b) (List.finRange m) := ⟨_, rfl⟩
  have hs : s.length = 8 := by rw [hsd, gE]
  rw [← hsd]
  refine gw ?_
  intro b5
  refine gw ?_
  refine e6 (a8 rfl (i4 aH rT (by rw [u4, hs]; exact ce224))) (gw ?_)
  refine l5 (γ := Nat) (mr 19 21 [6, 7]) (fun i => [(19, iI i)]) (fun i => [Blk b5 49 (e9 (nD s i)), eQ Dd, Blk b3 224 (M5 s), Blk b2 49 (List.replicate 32 (.int .u8 0))]) (fun i => i ≤ 8) (fun i => 8 - i) (0)
   ow oa ((by rw [zfC]; exact sk (sk (sk (sd (sd (sd sr))))))) ?_
  rintro i u hi
  refine gw ?_
  refine j0 rfl rfl (p9 (b := 8) rfl rfl) (fun h20 => gw ?_) (fun h20 => gw ?_)
  ·refine e6 (nU uT cT plain223 rfl rfl ow (AX (by rw [hs]; omega))) (gw ?_)
   refine e6 (F3 (a := 4) rfl rfl km) (e6 (za4 uT cT rfl rfl ow) (gw ?_))
   refine e6 (aQ (s := 24) rfl rfl) (e6 (U4 uT uT rfl) (gw ?_))
   refine e6 (aQ (s := 16) rfl rfl) (e6 (U4 uT uT rfl) (gw ?_))
   refine e6 (aQ (s := 8) rfl rfl) (e6 (U4 uT uT rfl) (gw ?_))
   refine e6 (U4 uT uT rfl) (z7 (uK (vs := e9 (w4 (s.getD i 0))) uT elem5 rfl dc rfl (fun v hv => (yU hv)) (fun g37 => (z7 (zeq (cs' := e9 (nD s (i + 1))) (news := e9 (w4 (s.getD i 0))) uT cT rfl rfl (j8 w5) (by rw [Nat.min_eq_left ow]; rfl) (r9 _) (by rw [o3, o3, dB hs ow]; show 0 + 4 * i * 1 + 4 ≤ 32; omega) (by rw [Nat.zero_add, Nat.mul_one]; exact zfB hs ow) ?_)))))
   refine gw ?_
   exact ⟨i + 1, od, od, oz, sd sr⟩
  ·refine i7 (c8 (gw ?_))
   refine e6 (a8 rfl (i4 w5 rT (by rw [o3, dB hs ow]; exact ce49))) ?_
   refine j9 rfl (R5 (v := .agg (e9 (nD s i)).toArray) rfl rfl (by rw [o6, o3, dB hs ow]; exact ce49) (uU _) (by rw [o6, o3, dB hs ow]; rfl) ?_)
   refine gw ?_
   refine a9 (finQ.retM rfl (sy [1]) (j7 rfl (i4 aH rT (by rw [o6, o3, dB hs ow]; exact ce49)) n9) sn ?_)
   have e : nD s i = FU b := by rw [show i = 8 by omega, zhh hs, hsd, zhQ, FU, hm, Nat.mul_div_cancel_left _ dc]
   exact ⟨congrArg (fun l => Value.agg (e9 l).toArray) e, rfl⟩
end Go.Proofs.YtgdjcmehlhebdaaGreatDoor
