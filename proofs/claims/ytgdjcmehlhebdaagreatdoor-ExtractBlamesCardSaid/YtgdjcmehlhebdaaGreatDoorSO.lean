/- Sorting a slice of numbers: the block that holds it; what 'less' is; words of 64 bits. -/
import Derived.Test.YtgdjcmehlhebdaaGreatDoorP1
import Derived.Test.YtgdjcmehlhebdaaGreatDoorE3
import Derived.Sort.Walk13a
import Derived.Sort.LotD4
import Derived.Sort.AssemblyPlain
set_option maxHeartbeats 25600000
namespace Go.E
@[reducible] def cutQ {γ : Type} (mods : List Nat) (vars : γ → List (Nat × Value)) (H : γ → List Assn) (inv : γ → Prop) (env0 : Env) (Q : EQ) : EQ := fun x e L => match x with
 | .normal => ∃ g', inv g' ∧ Agr mods (vars g') env0 e ∧ Sub (H g') L
 | x => Q x e L
theorem TC.cutseq {C : Ctx} {Q : EQ} {env : Env} {L : List Assn} {γ : Type} (mods : List Nat) (vars : γ → List (Nat × Value)) (H : γ → List Assn) (inv : γ → Prop) {x y : Code}
  (h1 : TC C x (cutQ mods vars H inv env Q) env L) (h2 : ∀ g u, inv g → TC C y Q (puts (vars g) (scr mods u env)) (H g)) : TC C (.seq x y) Q env L :=
 TC.seq (TC.mono h1 fun z e L' hz => by
  cases z with
  | normal =>
   obtain ⟨g, hi, ha, hs⟩ := hz
   have h := (h2 g e hi).sub hs
   rw [← ha.eq] at h
   exact h
  | _ => exact hz)
def ltN (x y : Nat) : Bool := decide (x < y)
def blkD (d : Array Nat) (r : List Value) : List Value := u64s d.toList ++ r
theorem zaa (d : Array Nat) (r : List Value) : (blkD d r).length = d.size + r.length := by simp [blkD, zbi]
theorem zak {d : Array Nat} {r : List Value} {i : Nat} (h : i < d.size) : (blkD d r)[i * 1]? = some (.int .u64 ((d[i]! : Nat) : Int)) := by
 rw [blkD, List.getElem?_append_left (by rw [zbi, Array.length_toList]; omega), zlF (i := i) (by rw [Array.length_toList]; exact h) (Nat.mul_one i)]
 simp [List.getD, h, getElem!_pos]
theorem zaE {d : Array Nat} {r : List Value} {i x : Nat} (h : i < d.size) : (blkD d r).set i (.int .u64 (x : Int)) = blkD (d.setIfInBounds i x) r := by
 rw [blkD, List.set_append_left _ _ (by rw [zbi, Array.length_toList]; exact h)]
 simp [blkD, u64s, List.map_set]
theorem Qt.index1 {C : Ctx} {L : List Assn} {env : Env} {dst : Option Tmp} {T : TypeId} {x y : Operand} {ty : TypeId} {pos : String} {after : Array Edge} {guard : Option (Nat × Bool)} {e : TypeId} {b N c i : Nat} {ki : IntKind} {cs : List Value} (ht : C.P.underlying T = some (.slice e)) (hsz : (C.P.info? e).map (·.size) = some 1) (hx : env.ev x = .slice (some ⟨b, 0, none⟩) N c) (hy : env.ev y = .int ki (i : Int)) (hi : i < N)
  (h : Has C L (SlA (some ⟨b, 0, none⟩) cs)) (hc : i * 1 < cs.length) : Qt C L ⟨dst, .indexAddr T x y, ty, pos, after, guard⟩ env (.pointer (some ⟨b, i, none⟩)) :=
 Qt.as (Qt.index ht hsz hx hy hi h hc) (by simp [zbh])
theorem zdT : Go.Sort.SWO ltN where
 irrefl := fun x => by simp [ltN]
 trans := fun x y z h1 h2 => by simp only [ltN, decide_eq_true_eq] at *; omega
 ntrans := fun x y z h1 h2 => by simp only [ltN, decide_eq_false_iff_not] at *; omega
def srt (xs : List Nat) : List Nat := xs.mergeSort (fun x y => !ltN y x)
theorem ztM (xs : List Nat) : (Go.Sort.sort ltN xs.toArray).toList = xs.mergeSort (fun x y => !ltN y x) := by
 have h := Go.Sort.sort_sorts ltN zdT xs.toArray
 have := Go.Sort.sorted_unique_holds (lt := ltN) zdT (fun x y h1 h2 => by simp only [ltN, decide_eq_false_iff_not] at *; omega) xs.toArray (Go.Sort.sort ltN xs.toArray) h.1 h.2
 simpa using this
theorem o2t {d : Array Nat} {a b k : Nat} (h : ltN d[b]! d[a]! = true) : Go.Sort.order2 ltN d a b k = (b, a, k + 1) := if_pos h
theorem o2f {d : Array Nat} {a b k : Nat} (h : ¬ ltN d[b]! d[a]! = true) : Go.Sort.order2 ltN d a b k = (a, b, k) := if_neg h
theorem zoH {d : Array Nat} {a j : Nat} (h : ¬ j > a) : Go.Sort.insInner ltN a j d = d := by
 cases j with
 | zero => rfl
 | succ j => rw [Go.Sort.insInner, if_neg (by simp [h])]
theorem zm0 {d : Array Nat} {a j : Nat} (h : ¬ ltN d[j]! d[j - 1]! = true) : Go.Sort.insInner ltN a j d = d := by
 cases j with
 | zero => rfl
 | succ j => rw [Go.Sort.insInner, if_neg (by simp only [Nat.add_sub_cancel] at h; simp [h])]
theorem zoI {d : Array Nat} {a j : Nat} (h : j > a) (h2 : ltN d[j]! d[j - 1]! = true) : Go.Sort.insInner ltN a j d = Go.Sort.insInner ltN a (j - 1) (Go.Sort.swp d j (j - 1)) := by
 cases j with
 | zero => omega
 | succ j => rw [Go.Sort.insInner, if_pos (by simp only [Nat.add_sub_cancel] at h2; simp [h, h2])]; rfl
theorem zoJ {d : Array Nat} {a b i : Nat} (h : ¬ i < b) : Go.Sort.insOuter ltN a b i d = d := by rw [Go.Sort.insOuter, if_neg h]
theorem zjy {d : Array Nat} {a b i : Nat} (h : i < b) : Go.Sort.insOuter ltN a b i d = Go.Sort.insOuter ltN a b (i + 1) (Go.Sort.insInner ltN a i d) := by rw [Go.Sort.insOuter, if_pos h]
theorem zqQ {d : Array Nat} {i j : Nat} (h : ¬ i < j) : Go.Sort.reverseLoop i j d = d := by rw [Go.Sort.reverseLoop, if_neg h]
theorem zqR {d : Array Nat} {i j : Nat} (h : i < j) : Go.Sort.reverseLoop i j d = Go.Sort.reverseLoop (i + 1) (j - 1) (Go.Sort.swp d i j) := by rw [Go.Sort.reverseLoop, if_pos h]
theorem zjz {d : Array Nat} {hi f root : Nat} (h : 2 * root + 1 ≥ hi) : Go.Sort.siftDown ltN hi f root d = d := by rw [Go.Sort.siftDown, dif_pos h]
def kid (d : Array Nat) (hi f root : Nat) : Nat := if 2 * root + 1 + 1 < hi ∧ ltN d[f + (2 * root + 1)]! d[f + (2 * root + 1) + 1]! = true then 2 * root + 1 + 1 else 2 * root + 1
theorem zth {d : Array Nat} {hi f root : Nat} (h : ¬ 2 * root + 1 ≥ hi) : kid d hi f root < hi ∧ root < kid d hi f root := by unfold kid; split <;> omega
theorem zeW {d : Array Nat} {hi f root : Nat} (h : ¬ 2 * root + 1 ≥ hi) (h2 : ¬ ltN d[f + root]! d[f + kid d hi f root]! = true) : Go.Sort.siftDown ltN hi f root d = d := by
 rw [Go.Sort.siftDown, dif_neg h]
 unfold kid at h2
 split
 ·rename_i hc
  rw [if_pos (by simpa using hc)] at h2
  rw [if_pos (by simpa using h2)]
 ·rename_i hc
  rw [if_neg (by simpa using hc)] at h2
  rw [if_pos (by simpa using h2)]
theorem zeX {d : Array Nat} {hi f root : Nat} (h : ¬ 2 * root + 1 ≥ hi) (h2 : ltN d[f + root]! d[f + kid d hi f root]! = true) : Go.Sort.siftDown ltN hi f root d = Go.Sort.siftDown ltN hi f (kid d hi f root) (Go.Sort.swp d (f + root) (f + kid d hi f root)) := by
 rw [Go.Sort.siftDown, dif_neg h]
 unfold kid at h2 ⊢
 split
 ·rename_i hc
  have hc' : 2 * root + 1 + 1 < hi ∧ ltN d[f + (2 * root + 1)]! d[f + (2 * root + 1) + 1]! = true := by simpa using hc
  rw [if_pos hc'] at h2 ⊢
  rw [if_neg (by simpa using h2), dif_pos hc'.1]
 ·rename_i hc
  have hc' : ¬ (2 * root + 1 + 1 < hi ∧ ltN d[f + (2 * root + 1)]! d[f + (2 * root + 1) + 1]! = true) := by simpa using hc
  rw [if_neg hc'] at h2 ⊢
  rw [if_neg (by simpa using h2)]
theorem zjA (d : Array Nat) (hi f root : Nat) : (Go.Sort.siftDown ltN hi f root d).size = d.size := by
 generalize hk : hi - root = k
 induction k using Nat.strongRecOn generalizing root d with
 | _ k ih =>
  by_cases h : 2 * root + 1 ≥ hi
  ·rw [zjz h]
  by_cases h2 : ltN d[f + root]! d[f + kid d hi f root]! = true
  ·rw [zeX h h2, ih _ (by have := zth (d := d) (f := f) h; omega) _ _ rfl, Go.Sort.swp_size]
  ·rw [zeW h h2]
theorem zsn {d : Array Nat} {hi f k : Nat} (h : 0 < k) : Go.Sort.heapBuild ltN hi f k d = Go.Sort.heapBuild ltN hi f (k - 1) (Go.Sort.siftDown ltN hi f (k - 1) d) := by
 cases k with
 | zero => omega
 | succ k => rfl
theorem zso {d : Array Nat} {hi f k : Nat} (h : k = 0) : Go.Sort.heapBuild ltN hi f k d = d := by subst h; rfl
theorem zsp {d : Array Nat} {f k : Nat} (h : 0 < k) : Go.Sort.heapPop ltN f k d = Go.Sort.heapPop ltN f (k - 1) (Go.Sort.siftDown ltN (k - 1) f 0 (Go.Sort.swp d f (f + (k - 1)))) := by
 cases k with
 | zero => omega
 | succ k => rfl
theorem zsq {d : Array Nat} {f k : Nat} (h : k = 0) : Go.Sort.heapPop ltN f k d = d := by subst h; rfl
def upL (e : Array Nat) (a j i : Nat) : Nat := Go.Sort.scanUp (fun x => ltN x e[a]!) e j i
def dnL (e : Array Nat) (a i j : Nat) : Nat := Go.Sort.scanDown (fun x => !ltN x e[a]!) e i j
theorem zjB {e : Array Nat} {a j i : Nat} (h : ¬ i ≤ j) : upL e a j i = i := by rw [upL, Go.Sort.scanUp, if_neg (by simp [h])]
theorem zjC {e : Array Nat} {a j i : Nat} (h : (ltN e[i]! e[a]!) = false) : upL e a j i = i := by rw [upL, Go.Sort.scanUp, if_neg (by simp only [h]; simp)]
theorem zl1 {e : Array Nat} {a j i : Nat} (h : i ≤ j) (h2 : (ltN e[i]! e[a]!) = true) : upL e a j i = upL e a j (i + 1) := by
 rw [upL, Go.Sort.scanUp, if_pos (by simp only [h2, h]; simp)]; rfl
theorem zjD {e : Array Nat} {a i j : Nat} (h : ¬ i ≤ j) : dnL e a i j = j := by
 cases j with
 | zero => rfl
 | succ j => rw [dnL, Go.Sort.scanDown, if_neg (by simp [h])]
theorem zjE {e : Array Nat} {a i j : Nat} (h : (!ltN e[j]! e[a]!) = false) : dnL e a i j = j := by
 cases j with
 | zero => rfl
 | succ j => rw [dnL, Go.Sort.scanDown, if_neg (by simp only [h]; simp)]
theorem zl2 {e : Array Nat} {a i j : Nat} (h : i ≤ j) (h1 : 1 ≤ i) (h2 : (!ltN e[j]! e[a]!) = true) : dnL e a i j = dnL e a i (j - 1) := by
 cases j with
 | zero => omega
 | succ j => rw [dnL, Go.Sort.scanDown, if_pos (by simp only [h2, h]; simp)]; rfl
def upE (e : Array Nat) (a j i : Nat) : Nat := Go.Sort.scanUp (fun x => !ltN e[a]! x) e j i
def dnE (e : Array Nat) (a i j : Nat) : Nat := Go.Sort.scanDown (fun x => ltN e[a]! x) e i j
theorem zoK {e : Array Nat} {a j i : Nat} (h : ¬ i ≤ j) : upE e a j i = i := by rw [upE, Go.Sort.scanUp, if_neg (by simp [h])]
theorem zoL {e : Array Nat} {a j i : Nat} (h : (!ltN e[a]! e[i]!) = false) : upE e a j i = i := by rw [upE, Go.Sort.scanUp, if_neg (by simp only [h]; simp)]
theorem zqS {e : Array Nat} {a j i : Nat} (h : i ≤ j) (h2 : (!ltN e[a]! e[i]!) = true) : upE e a j i = upE e a j (i + 1) := by
 rw [upE, Go.Sort.scanUp, if_pos (by simp only [h2, h]; simp)]; rfl
theorem zoM {e : Array Nat} {a i j : Nat} (h : ¬ i ≤ j) : dnE e a i j = j := by
 cases j with
 | zero => rfl
 | succ j => rw [dnE, Go.Sort.scanDown, if_neg (by simp [h])]
theorem zoN {e : Array Nat} {a i j : Nat} (h : (ltN e[a]! e[j]!) = false) : dnE e a i j = j := by
 cases j with
 | zero => rfl
 | succ j => rw [dnE, Go.Sort.scanDown, if_neg (by simp only [h]; simp)]
theorem zqT {e : Array Nat} {a i j : Nat} (h : i ≤ j) (h1 : 1 ≤ i) (h2 : (ltN e[a]! e[j]!) = true) : dnE e a i j = dnE e a i (j - 1) := by
 cases j with
 | zero => omega
 | succ j => rw [dnE, Go.Sort.scanDown, if_pos (by simp only [h2, h]; simp)]; rfl
theorem zsr {f : Array Nat} {a i j k l : Nat} (hU : upL f a j i = k) (hD : dnL f a k j = l) (h : k > l) : Go.Sort.partLoop ltN a i j f = (l, f) := by
 rw [Go.Sort.partLoop_eq]; subst hU; subst hD; exact if_pos h
theorem zss {f : Array Nat} {a i j k l : Nat} (hU : upL f a j i = k) (hD : dnL f a k j = l) (h : ¬ k > l) : Go.Sort.partLoop ltN a i j f = Go.Sort.partLoop ltN a (k + 1) (l - 1) (Go.Sort.swp f k l) := by
 rw [Go.Sort.partLoop_eq]; subst hU; subst hD; exact if_neg h
theorem zst {f : Array Nat} {a i j k l : Nat} (hU : upE f a j i = k) (hD : dnE f a k j = l) (h : k > l) : Go.Sort.partEqLoop ltN a i j f = (k, f) := by
 rw [Go.Sort.partEqLoop_eq]; subst hU; subst hD; exact if_pos h
theorem zsu {f : Array Nat} {a i j k l : Nat} (hU : upE f a j i = k) (hD : dnE f a k j = l) (h : ¬ k > l) : Go.Sort.partEqLoop ltN a i j f = Go.Sort.partEqLoop ltN a (k + 1) (l - 1) (Go.Sort.swp f k l) := by
 rw [Go.Sort.partEqLoop_eq]; subst hU; subst hD; exact if_neg h
theorem zoO {d e : Array Nat} {a b p i j : Nat} (he : e = Go.Sort.swp d a p) (hU : upL e a (b - 1) (a + 1) = i) (hD : dnL e a i (b - 1) = j) (h : i > j) : Go.Sort.partition ltN d a b p = (j, true, Go.Sort.swp e j a) := by
 subst he hU hD; exact if_pos h
theorem zsv {d e : Array Nat} {a b p i j : Nat} (he : e = Go.Sort.swp d a p) (hU : upL e a (b - 1) (a + 1) = i) (hD : dnL e a i (b - 1) = j) (h : ¬ i > j) {l : Nat} {f : Array Nat} (hr : Go.Sort.partLoop ltN a (i + 1) (j - 1) (Go.Sort.swp e i j) = (l, f)) : Go.Sort.partition ltN d a b p = (l, false, Go.Sort.swp f l a) := by
 have : Go.Sort.partition ltN d a b p = (let r := Go.Sort.partLoop ltN a (i + 1) (j - 1) (Go.Sort.swp e i j); (r.1, false, Go.Sort.swp r.2 r.1 a)) := by subst he hU hD; exact if_neg h
 rw [this, hr]
theorem zqU {e : Array Nat} {b k : Nat} (h : ¬ k < b) : Go.Sort.scanSorted ltN e b k = k := by rw [Go.Sort.scanSorted, if_neg (by simp [h])]
theorem zqV {e : Array Nat} {b k : Nat} (h : ltN e[k]! e[k - 1]! = true) : Go.Sort.scanSorted ltN e b k = k := by rw [Go.Sort.scanSorted, if_neg (by simp only [h]; simp)]
theorem zsw {e : Array Nat} {b k : Nat} (h : k < b) (h2 : ¬ ltN e[k]! e[k - 1]! = true) : Go.Sort.scanSorted ltN e b k = Go.Sort.scanSorted ltN e b (k + 1) := by
 rw [Go.Sort.scanSorted, if_pos (by simp only [h, Bool.eq_false_iff.2 h2]; simp)]
theorem zqW {f : Array Nat} {j : Nat} (h : ¬ j ≥ 1) : Go.Sort.shiftDown ltN j f = f := by
 obtain rfl : j = 0 := by omega
 rfl
theorem zqX {f : Array Nat} {j : Nat} (h : ¬ ltN f[j]! f[j - 1]! = true) : Go.Sort.shiftDown ltN j f = f := by
 cases j with
 | zero => rfl
 | succ j => rw [Go.Sort.shiftDown, if_pos (by simp only [Nat.add_sub_cancel] at h; simp only [Bool.eq_false_iff.2 h]; simp)]
theorem zsx {f : Array Nat} {j : Nat} (h : j ≥ 1) (h2 : ltN f[j]! f[j - 1]! = true) : Go.Sort.shiftDown ltN j f = Go.Sort.shiftDown ltN (j - 1) (Go.Sort.swp f j (j - 1)) := by
 cases j with
 | zero => omega
 | succ j => rw [Go.Sort.shiftDown, if_neg (by simp only [Nat.add_sub_cancel] at h2; simp only [h2]; simp)]; rfl
theorem zqY {f : Array Nat} {b j : Nat} (h : ¬ j < b) : Go.Sort.shiftUp ltN b j f = f := by rw [Go.Sort.shiftUp, if_neg h]
theorem zqZ {f : Array Nat} {b j : Nat} (h : j < b) (h2 : ¬ ltN f[j]! f[j - 1]! = true) : Go.Sort.shiftUp ltN b j f = f := by rw [Go.Sort.shiftUp, if_pos h, if_pos (by simp only [Bool.eq_false_iff.2 h2]; simp)]
theorem zsy {f : Array Nat} {b j : Nat} (h : j < b) (h2 : ltN f[j]! f[j - 1]! = true) : Go.Sort.shiftUp ltN b j f = Go.Sort.shiftUp ltN b (j + 1) (Go.Sort.swp f j (j - 1)) := by rw [Go.Sort.shiftUp, if_pos h, if_neg (by simp only [h2]; simp)]
theorem zsz {e : Array Nat} {a b s i k : Nat} (hs : 0 < s) (hk : Go.Sort.scanSorted ltN e b i = k) (h : k = b) : Go.Sort.partialIns ltN a b s i e = (e, true) := by
 cases s with
 | zero => omega
 | succ s => rw [Go.Sort.partialIns_succ, hk, if_pos h]
theorem zq0 {e : Array Nat} {a b s i k : Nat} (hs : 0 < s) (hk : Go.Sort.scanSorted ltN e b i = k) (h : ¬ k = b) (h2 : b - a < 50) : Go.Sort.partialIns ltN a b s i e = (e, false) := by
 cases s with
 | zero => omega
 | succ s => rw [Go.Sort.partialIns_succ, hk, if_neg h, if_pos h2]
theorem zkU {e f2 f3 : Array Nat} {a b s i k : Nat} (hs : 0 < s) (hk : Go.Sort.scanSorted ltN e b i = k) (h : ¬ k = b) (h2 : ¬ b - a < 50) (e2 : f2 = Go.Sort.fixDown ltN a k (Go.Sort.swp e k (k - 1))) (e3 : f3 = Go.Sort.fixUp ltN b k f2) : Go.Sort.partialIns ltN a b s i e = Go.Sort.partialIns ltN a b (s - 1) k f3 := by
 cases s with
 | zero => omega
 | succ s => rw [Go.Sort.partialIns_succ, hk, if_neg h, if_neg h2, e3, e2]; rfl
theorem x13 (r : UInt64) : r.toNat * 2 ^ 13 % umod .u64 = (r <<< 13).toNat := by
 rw [UInt64.toNat_shiftLeft]; simp [umod, Nat.shiftLeft_eq]
theorem x17 (r : UInt64) : r.toNat * 2 ^ 17 % umod .u64 = (r <<< 17).toNat := by
 rw [UInt64.toNat_shiftLeft]; simp [umod, Nat.shiftLeft_eq]
theorem x7 (r : UInt64) : r.toNat / 2 ^ 7 = (r >>> 7).toNat := by
 rw [UInt64.toNat_shiftRight]; simp [Nat.shiftRight_eq_div_pow]
theorem zfD (r : UInt64) : r.toNat ≤ kmax .u64 := by have := r.toNat_lt; simp only [kmax]; omega
theorem vu64 {a b : Nat} (h : a = b) : Value.int .u64 (a : Int) = Value.int .u64 (b : Int) := by rw [h]
theorem zsA {x : Nat} (h : x < 4294967296) : (UInt64.ofNat x).toNat = x := by rw [UInt64.toNat_ofNat']; exact Nat.mod_eq_of_lt ow
def brk (a len md : Nat) (d : Array Nat) (i0 : Nat) : Nat → UInt64 × Array Nat
 | 0 => (UInt64.ofNat len, d)
 | c + 1 => Go.Sort.breakStep a len md (brk a len md d i0 c) (i0 + c)
theorem ztN {a b : Nat} {d : Array Nat} (h : b - a ≥ 8) : Go.Sort.breakPatterns d a b = (brk a (b - a) (1 <<< Go.Sort.bitsLen (b - a)) d (a + (b - a) / 4 * 2 - 1) 3).2 := by
 simp only [Go.Sort.breakPatterns, if_pos h]; rfl
theorem ztO {a b : Nat} {d : Array Nat} (h : ¬ b - a ≥ 8) : Go.Sort.breakPatterns d a b = d := by simp only [Go.Sort.breakPatterns, if_neg h]
theorem ztP {a len md idx : Nat} {s : UInt64} {e : Array Nat} (h : (Go.Sort.xorNext s).toNat &&& (md - 1) ≥ len) : Go.Sort.breakStep a len md (s, e) idx = (Go.Sort.xorNext s, Go.Sort.swp e idx (a + (((Go.Sort.xorNext s).toNat &&& (md - 1)) - len))) := by
 simp only [Go.Sort.breakStep, if_pos h]
theorem ztQ {a len md idx : Nat} {s : UInt64} {e : Array Nat} (h : ¬ (Go.Sort.xorNext s).toNat &&& (md - 1) ≥ len) : Go.Sort.breakStep a len md (s, e) idx = (Go.Sort.xorNext s, Go.Sort.swp e idx (a + ((Go.Sort.xorNext s).toNat &&& (md - 1)))) := by
 simp only [Go.Sort.breakStep, if_neg h]
theorem zoP {x : Nat} (h : 0 < x) : 1 ≤ 1 <<< Go.Sort.bitsLen x ∧ 1 <<< Go.Sort.bitsLen x ≤ 2 * x := by
 rw [Nat.shiftLeft_eq, Nat.one_mul]
 exact ⟨Nat.two_pow_pos _, Go.Sort.two_pow_bitsLen_le h⟩
theorem bl32 {x : Nat} (h : x < 4294967296) : za0 x ≤ 32 := (Go.Sort.bitsLen_le_iff x 32).2 h
theorem zq1 {h : Go.Sort.Hint} (e : Go.Sort.hintCode h = 2) : h = .decreasing := by cases h <;> simp [Go.Sort.hintCode] at e ⊢
theorem zq2 {h : Go.Sort.Hint} (e : Go.Sort.hintCode h = 1) : h = .increasing := by cases h <;> simp [Go.Sort.hintCode] at e ⊢
theorem zq3 {h : Go.Sort.Hint} (e : ¬ Go.Sort.hintCode h = 2) : h ≠ .decreasing := fun k => e (by rw [k]; rfl)
end Go.E
