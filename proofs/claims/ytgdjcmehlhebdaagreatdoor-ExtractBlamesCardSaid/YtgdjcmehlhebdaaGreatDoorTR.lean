/- Plain words: a tree of hashes, and the map in which it is kept. -/
import Derived.Test.YtgdjcmehlhebdaaGreatDoorSH
import Derived.Test.YtgdjcmehlhebdaaGreatDoorOY
set_option maxHeartbeats 25600000
namespace Go.E
def zaM (h : Nat) (l r : H32) : List UInt8 := [2, UInt8.ofNat h] ++ l.1 ++ r.1
def zbj (h : Nat) (l r : H32) : H32 := shaH (zaM h l r)
def zje : Nat → H32
 | 0 => shaH [0]
 | h + 1 => zbj (h + 1) (zje h) (zje h)
def zbq (f : Nat → H32) : Nat → Nat → H32
 | 0, p => f p
 | l + 1, p => zbj (l + 1) (zbq f l (2 * p)) (zbq f l (2 * p + 1))
theorem zbT {f g : Nat → H32} : ∀ (l p : Nat), (∀ i, i / 2 ^ l = p → f i = g i) → zbq f l p = zbq g l p
 | 0, p, h => h p (by simp)
 | l + 1, p, h => by
  have e : ∀ i, i / 2 ^ (l + 1) = i / 2 ^ l / 2 := fun i => by rw [Nat.pow_succ, Nat.div_div_eq_div_mul]
  rw [zbq, zbq, zbT l (2 * p) fun i hi => h i (by rw [e, hi]; omega), zbT l (2 * p + 1) fun i hi => h i (by rw [e, hi]; omega)]
theorem zet {E : Nat → H32} (hE : ∀ h, E (h + 1) = zbj (h + 1) (E h) (E h)) {f : Nat → H32} (l p : Nat) (h : ∀ i, i / 2 ^ l = p → f i = E 0) : zbq f l p = E l := by
 induction l generalizing p with
 | zero => exact h p (by simp)
 | succ l ih =>
  have e : ∀ i, i / 2 ^ (l + 1) = i / 2 ^ l / 2 := fun i => by rw [Nat.pow_succ, Nat.div_div_eq_div_mul]
  rw [zbq, hE, ih (2 * p) fun i hi => h i (by rw [e, hi]; omega), ih (2 * p + 1) fun i hi => h i (by rw [e, hi]; omega)]
abbrev Tm := List ((Nat × Nat) × H32)
def getT (E : Nat → H32) (ms : Tm) (a : Nat × Nat) : H32 := (look a ms).getD (E a.1)
def putT (E : Nat → H32) (ms : Tm) (a : Nat × Nat) (h : H32) : Tm := if h = E a.1 then delR a ms else updR a h ms
theorem zhz {E : Nat → H32} {ms : Tm} (hn : (zas ms).Nodup) (a : Nat × Nat) (h : H32) : (zas (putT E ms a h)).Nodup := by
 unfold putT; split
 ·exact zdH a hn
 ·exact zeH a h hn
theorem zlK {E : Nat → H32} {ms : Tm} (hn : (zas ms).Nodup) (a b : Nat × Nat) (h : H32) : getT E (putT E ms a h) b = if b = a then h else getT E ms b := by
 unfold getT putT
 by_cases he : h = E a.1
 ·rw [if_pos he, zeI a b hn]
  by_cases hb : b = a
  ·subst hb; simp [he]
  ·simp [hb]
 ·rw [if_neg he, zfS a b h ms]
  by_cases hb : b = a
  ·subst hb; simp
  ·simp [hb]
def okAt (height : Nat) (a : Nat × Nat) : Prop := a.1 ≤ height ∧ a.2 < 2 ^ (height - a.1)
instance (height : Nat) (a : Nat × Nat) : Decidable (okAt height a) := inferInstanceAs (Decidable (_ ∧ _))
structure TreeOk (E : Nat → H32) (height : Nat) (f : Nat → H32) (ms : Tm) : Prop where
 nodup : (zas ms).Nodup
 get : ∀ a, okAt height a → getT E ms a = zbq f a.1 a.2
 keys : ∀ a h, look a ms = some h → okAt height a ∧ h ≠ E a.1
def updF (f : Nat → H32) (i : Nat) (h : H32) : Nat → H32 := fun j => if j = i then h else f j
def setK (E : Nat → H32) (ms : Tm) (i : Nat) (h : H32) : Nat → Tm
 | 0 => putT E ms (0, i) h
 | l + 1 => putT E (setK E ms i h l) (l + 1, i / 2 ^ (l + 1)) (zbj (l + 1) (getT E (setK E ms i h l) (l, 2 * (i / 2 ^ (l + 1)))) (getT E (setK E ms i h l) (l, 2 * (i / 2 ^ (l + 1)) + 1)))
theorem zd5 {i height l : Nat} (hi : i < 2 ^ height) (hl : l ≤ height) : i / 2 ^ l < 2 ^ (height - l) := by
 rw [Nat.div_lt_iff_lt_mul (Nat.two_pow_pos l), ← Nat.pow_add]
 rwa [show height - l + l = height by omega]
theorem zeQ {height l : Nat} (h : l < height) : 2 ^ (height - l) = 2 * 2 ^ (height - (l + 1)) := by
 rw [show height - l = height - (l + 1) + 1 by omega, Nat.pow_succ, Nat.mul_comm]
theorem TreeOk.empty {E : Nat → H32} (hE : ∀ h, E (h + 1) = zbj (h + 1) (E h) (E h)) (height : Nat) : TreeOk E height (fun _ => E 0) [] where
 nodup := List.nodup_nil
 get a _ := by rw [zet hE _ _ fun _ _ => rfl]; rfl
 keys a h hl := by cases hl
structure SetOk (E : Nat → H32) (height : Nat) (f f' : Nat → H32) (l : Nat) (ms : Tm) : Prop where
 nodup : (zas ms).Nodup
 get : ∀ a, okAt height a → getT E ms a = if a.1 ≤ l then zbq f' a.1 a.2 else zbq f a.1 a.2
 keys : ∀ a h, look a ms = some h → okAt height a ∧ h ≠ E a.1
theorem zjf {E : Nat → H32} {height : Nat} {ms : Tm} (hn : (zas ms).Nodup) (hk : ∀ a h, look a ms = some h → okAt height a ∧ h ≠ E a.1) {b : Nat × Nat} (hb : okAt height b) (x : H32) :
  ∀ a h, look a (putT E ms b x) = some h → okAt height a ∧ h ≠ E a.1 := fun a h hl => by
 unfold putT at hl
 by_cases he : x = E b.1
 ·rw [if_pos he, zeI b a hn] at hl
  split at hl
  ·cases hl
  ·exact hk a h hl
 ·rw [if_neg he, zfS b a x ms] at hl
  split at hl
  ·rename_i hab; subst hab
   injection hl with hl
   subst hl
   exact ⟨hb, he⟩
  ·exact hk a h hl
theorem znZ {E : Nat → H32} {height : Nat} {f : Nat → H32} {ms : Tm} (ht : TreeOk E height f ms) {i : Nat} (hi : i < 2 ^ height) (h : H32) : ∀ l, l ≤ height → SetOk E height f (updF f i h) l (setK E ms i h l)
 | 0, _ => by
  refine ⟨zhz ht.nodup _ _, fun a ha => ?_, zjf ht.nodup ht.keys ⟨Nat.zero_le _, by simpa using hi⟩ h⟩
  obtain ⟨l, p⟩ := a
  rw [setK, zlK ht.nodup]
  by_cases he : (l, p) = (0, i)
  ·rw [if_pos he]
   injection he with h1 h2
   subst h1; subst h2
   simp [zbq, updF]
  ·rw [if_neg he, ht.get _ ha]
   by_cases h0 : l ≤ 0
   ·obtain rfl : l = 0 := by omega
    have hp : p ≠ i := fun hp => he (by rw [hp])
    simp [zbq, updF, hp]
   ·simp [h0]
 | l + 1, hl => by
  have ih := znZ ht hi h l ow
  have hq : i / 2 ^ (l + 1) < 2 ^ (height - (l + 1)) := zd5 hi hl
  have hs := zeQ (show l < height by omega)
  refine ⟨zhz ih.nodup _ _, fun a ha => ?_, zjf ih.nodup ih.keys ⟨hl, hq⟩ _⟩
  obtain ⟨l', p⟩ := a
  rw [setK, zlK ih.nodup]
  by_cases he : (l', p) = (l + 1, i / 2 ^ (l + 1))
  ·rw [if_pos he]
   injection he with h1 h2
   subst h1; subst h2
   rw [ih.get _ ⟨by show l ≤ height; omega, by show 2 * (i / 2 ^ (l + 1)) < 2 ^ (height - l); omega⟩, ih.get _ ⟨by show l ≤ height; omega, by show 2 * (i / 2 ^ (l + 1)) + 1 < 2 ^ (height - l); omega⟩]
   simp [zbq]
  ·rw [if_neg he, ih.get _ ha]
   by_cases h0 : l' ≤ l
   ·simp [h0, show l' ≤ l + 1 by omega]
   ·by_cases h1 : l' = l + 1
    ·subst h1
     have hp : p ≠ i / 2 ^ (l + 1) := fun hp => he (by rw [hp])
     simp only [Nat.le_refl, if_true, show ¬ l + 1 ≤ l by omega, if_false]
     refine zbT _ _ fun j hj => ?_
     have : j ≠ i := fun e => hp (by rw [← hj, e])
     simp [updF, this]
    ·simp [h0, show ¬ l' ≤ l + 1 by omega]
theorem TreeOk.set {E : Nat → H32} {height : Nat} {f : Nat → H32} {ms : Tm} (ht : TreeOk E height f ms) {i : Nat} (hi : i < 2 ^ height) (h : H32) : TreeOk E height (updF f i h) (setK E ms i h height) :=
 have k := znZ ht hi h height (Nat.le_refl _)
 ⟨k.nodup, fun a ha => by rw [k.get a ha, if_pos ha.1], k.keys⟩
def zqz (f : Nat → H32) (height i : Nat) : List H32 := (List.range height).map fun l => zbq f l ((i / 2 ^ l) ^^^ 1)
theorem zgo (n : Nat) : n ^^^ 1 = if n % 2 = 0 then n + 1 else n - 1 := by
 apply Nat.eq_of_testBit_eq
 intro j
 rw [Nat.testBit_xor]
 cases j with
 | zero =>
  simp only [Nat.testBit_zero]
  rcases Nat.mod_two_eq_zero_or_one n with h | h
  ·rw [if_pos h]; simp [h, show (n + 1) % 2 = 1 by omega]
  ·rw [if_neg ow]; simp [h, show (n - 1) % 2 = 0 by omega]
 | succ j =>
  simp only [Nat.testBit_succ]
  have : 1 / 2 = 0 := rfl
  split
  ·rw [show (n + 1) / 2 = n / 2 by omega]; simp
  ·rw [show (n - 1) / 2 = n / 2 by omega]; simp
/-! numbers as bytes; hashes in blocks -/
def numB (n s : Nat) : List UInt8 := (List.range s).map fun i => UInt8.ofNat (n / 2 ^ (8 * (s - 1 - i)))
theorem zaC (n s : Nat) : (numB n s).length = s := by simp [numB]
theorem zjg (n : Nat) {s i : Nat} (h : i < s) : (numB n s).take (i + 1) = (numB n s).take i ++ [UInt8.ofNat (n / 2 ^ (8 * (s - 1 - i)))] := by
 rw [List.take_succ_eq_append_getElem (by rw [zaC]; exact h)]
 simp [numB]
theorem zlL (n s : Nat) : (numB n s).take s = numB n s := List.take_of_length_le (by rw [zaC]; exact Nat.le_refl _)
theorem zlM (n : Nat) : numB n 1 = [UInt8.ofNat n] := by simp [numB]
theorem zlN (bs : List UInt8) (n : Nat) {s i : Nat} (h : i < s) : zad (bs ++ (numB n s).take i) ++ zad [UInt8.ofNat (n / 2 ^ (8 * (s - 1 - i)))] = zad (bs ++ (numB n s).take (i + 1)) := by
 rw [← za1, zjg n h, List.append_assoc]
theorem zn0 (bs : List UInt8) (n : Nat) {s i : Nat} (h : i < s) : (bs ++ (numB n s).take (i + 1)).length = (bs ++ (numB n s).take i).length + 1 := by
 rw [zjg n h, ← List.append_assoc, List.length_append]; rfl
theorem zfg (l : List H32) : (vl (.agg (hcs l).toArray)).all (·.oneCell') = true := List.all_eq_true.2 (zeo l)
theorem zba (h : Nat) (l r : H32) : (zaM h l r).length = 66 := by simp [zaM, l.2, r.2]
variable {C : Ctx} {env : Env} {L : List Assn}
theorem Ld.hash1 {b : Nat} {T T' : TypeId} {x : H32} (h : Has C L (Blk b T' (hvl x))) (hT : rowT C.P T = true) (hs : (C.P.info? T).map (·.size) = some 32) : Ld C L (some ⟨b, 0, none⟩) T (hv x) :=
 Ld.all h hT (by rw [zag]; exact hs)
theorem Ld.hashB {b o : Nat} {T T' : TypeId} {l : List H32} (h : Has C L (Blk b T' (hcs l))) (i : Nat) (hT : rowT C.P T = true) (hs : (C.P.info? T).map (·.size) = some 32) (hi : i < l.length) (ho : o = i * 32) : Ld C L (some ⟨b, o, none⟩) T (hv (l.getD i zac)) :=
 Ld.row h hT (by rw [zag]; exact hs) (znO hi ho)
theorem Ld.hashS {A : OAd} {k : Nat} {T : TypeId} {l : List H32} (h : Has C L (SlA A (hcs l))) (i : Nat) (hT : rowT C.P T = true) (hs : (C.P.info? T).map (·.size) = some 32) (hi : i < l.length) (hk : k = i * 32) : Ld C L (A.map (·.add k)) T (hv (l.getD i zac)) :=
 Ld.slr h hT (by rw [zag]; exact hs) (by rw [zag]; decide) (znO hi hk)
theorem zab {P : Program} {T : TypeId} {x : H32} (hs : (P.info? T).map (·.size) = some 32) : (P.info? T).map (·.size) = some (vl (hv x)).length := by rw [zie, zag]; exact hs
theorem zai (x : H32) : (vl (hv x)).all (·.oneCell') = true := by rw [zie]; exact zco x
theorem zaf (x : H32) : (vl (hv x)).length = 32 := by rw [zie, zag]
theorem zn1 : ∀ (l : List H32) (i : Nat) (x : H32), i < l.length → (hcs l).take (i * 32) ++ vl (hv x) ++ (hcs l).drop (i * 32 + (vl (hv x)).length) = hcs (l.set i x) := by
 intro l i x h
 rw [zaf, zie, zd2, show i * 32 + 32 = (i + 1) * 32 by omega, zeK, List.set_eq_take_append_cons_drop, if_pos h, zbg, za7, List.append_assoc]
def zdC (E : Nat → H32) (k : Nat) : List H32 := (List.range k).map E ++ List.replicate (33 - k) zac
theorem zbb (E : Nat → H32) {k : Nat} (h : k ≤ 33) : (zdC E k).length = 33 := by simp [zdC]; omega
theorem zjh (E : Nat → H32) {k i : Nat} (h : i < k) : (zdC E k).getD i zac = E i := by
 simp [zdC, List.getD, List.getElem?_append_left, h]
theorem zn2 (E : Nat → H32) {k : Nat} (h : k < 33) : (zdC E k).set k (E k) = zdC E (k + 1) := by
 have h1 := zii ((List.range k).map E) (33 - k) zac (E k) ow
 rw [List.length_map, List.length_range] at h1
 rw [zdC, h1, zdC, List.range_succ, List.map_append, show 33 - k - 1 = 33 - (k + 1) by omega]
 rfl
def zbd (E : Nat → H32) : List H32 := (List.range 33).map E
theorem zn3 (E : Nat → H32) : zdC E 33 = zbd E := by simp [zdC, zbd]
theorem zaQ (E : Nat → H32) : (zbd E).length = 33 := by simp [zbd]
theorem zdJ (E : Nat → H32) {i : Nat} (h : i < 33) : (zbd E).getD i zac = E i := by simp [zbd, List.getD, h]
theorem zij (n : Nat) : hcs (List.replicate n zac) = List.replicate (n * 32) (.int .u8 0) := by
 induction n with
 | zero => rfl
 | succ n ih =>
  rw [List.replicate_succ, za7, ih, show (n + 1) * 32 = 32 + n * 32 by omega, ← List.replicate_append_replicate]
  rfl
theorem zn4 (E : Nat → H32) : hcs (zdC E 1) = hvl (E 0) ++ List.replicate (32 * 32) (.int .u8 0) := by
 have : zdC E 1 = E 0 :: List.replicate 32 zac := by simp [zdC]
 rw [this, za7, zij]
end Go.E
namespace Go.E
section wide
variable {C : Ctx} {Q : EQ} {env : Env} {L : List Assn} {ops : Array Oper} {rest : List Oper} {d : Nat} {op : Op} {ty : TypeId} {pos : String} {after : Array Edge} {v : Value} {gd : Nat × Bool} {x y : Operand} {E : List Nat × List Nat} {F : List Assn} {dn : List Nat}
theorem S.q1 (hy : Qt C L ⟨some d, op, ty, pos, after, none⟩ env v) (hd : Nat.blt d C.n = true) (hnd : zap ⟨some d, op, ty, pos, after, none⟩ = false) (k : TL C ops Q rest (env.put d v) L) : TL C ops Q (⟨some d, op, ty, pos, after, none⟩ :: rest) env L := S.q hd hnd hy k
theorem S.q2 (hw : zaF ops env ⟨some d, op, ty, pos, after, some gd⟩ = true) (hy : Qt C L ⟨some d, op, ty, pos, after, some gd⟩ env v) (hd : Nat.blt d C.n = true) (hnd : zap ⟨some d, op, ty, pos, after, some gd⟩ = false) (k : TL C ops Q rest (env.put d v) L) : TL C ops Q (⟨some d, op, ty, pos, after, some gd⟩ :: rest) env L := S.qg hw hd hnd hy k
theorem S.al {T : TypeId} {zs : List Value} (hz : zaW C.P T = some zs) (hd : Nat.blt d C.n = true) (k : ∀ b, TL C ops Q rest (env.put d (.pointer (some ⟨b, 0, none⟩))) (Blk b T zs :: L)) : TL C ops Q (⟨some d, .alloc T, ty, pos, after, none⟩ :: rest) env L := S.opS hd rfl (OpV.alloc hz k)
theorem S.bx {T : TypeId} (hx : env.ev x = v) (hd : Nat.blt d C.n = true) (k : ∀ b, TL C ops Q rest (env.put d (.pointer (some ⟨b, 0, none⟩))) (Blk b T (vl v) :: L)) : TL C ops Q (⟨some d, .box T x, ty, pos, after, none⟩ :: rest) env L := S.opS hd rfl (OpV.box hx k)
theorem sb {A B : List Assn} (h : Sub A B := by repeat (first | exact Sub.nil _ | exact Sub.refl _ | with_reducible refine Sub.keep _ ?_ | refine Sub.drop _ ?_)) : Sub A B := h
theorem sbk {A B : List Assn} {G : Prop} (k : G) (h : Sub A B := by exact sb) : Sub A B ∧ G := ⟨h, k⟩
theorem outs {mods : List Nat} {env e : Env} (h : Out mods env e := by first | (repeat (first | exact Out.refl _ _ | with_reducible refine Out.put ?_ ?_; exact rfl | with_reducible refine Out.puts ?_ ?_; exact rfl | with_reducible refine Out.scr ?_ | refine Out.scr' ?_ ?_; exact rfl)); done | (repeat (first | exact Out.refl _ _ | refine Out.put rfl ?_ | refine Out.puts rfl ?_ | refine Out.scr ?_ | refine Out.scr' rfl ?_))) : Out mods env e := h
theorem hs {A : Assn} (h : Has C L A := by first | exact Has.at 0 rfl | exact Has.at 1 rfl | exact Has.at 2 rfl | exact Has.at 3 rfl | exact Has.at 4 rfl | exact Has.at 5 rfl | exact Has.at 6 rfl | exact Has.at 7 rfl | exact Has.at 8 rfl | exact Has.at 9 rfl | exact Has.at 10 rfl | exact Has.at 11 rfl | exact Has.ro (by assumption)) : Has C L A := h
theorem ldA {A : OAd} {T : TypeId} (h : Ld C L A T v := by first
 | ((with_reducible apply Ld.one); exact hs; exact oT; (conv => lhs; whnf))
 | ((with_reducible apply Ld.hash1); exact hs; exact rT; exact cT)) : Ld C L A T v := h
def lget {α : Type} : List α → Nat → Option α
 | [], _ => none
 | a :: _, 0 => some a
 | _ :: l, i + 1 => lget l i
theorem zn5 {α : Type} : ∀ (l : List α) (i : Nat), lget l i = l[i]?
 | [], i => by simp [lget]
 | a :: l, 0 => by simp [lget]
 | a :: l, i + 1 => by simp [lget, zn5 l i]
theorem Qt.fieldL {dst : Option Tmp} {guard : Option (Nat × Bool)} {T : TypeId} {fs : Array Field} {f : Field} {i b o sz : Nat} (hT : C.P.underlying T = some (.struct fs)) (hf : lget fs.toList i = some f) (hs : (C.P.info? f.type).map (·.size) = some (sz + 1)) (hx : env.ev x = .pointer (some ⟨b, o, none⟩)) :
  Qt C L ⟨dst, .fieldAddr T x i, ty, pos, after, guard⟩ env (.pointer (some ⟨b, o + f.offset, none⟩)) := Qt.field hT (by rw [zn5] at hf; simpa using hf) hs hx
theorem qt {o : Oper} (h : Qt C L o env v := by first
 | ((with_reducible apply Qt.move); (conv => lhs; whnf))
 | ((with_reducible apply Qt.assign); (conv => lhs; whnf))
 | ((with_reducible apply Qt.extract); exact rfl; exact rfl)
 | ((with_reducible apply Qt.pick_t); exact rfl; (conv => lhs; whnf))
 | ((with_reducible apply Qt.pick_f); exact rfl; (conv => lhs; whnf))
 | ((with_reducible apply Qt.not_t); exact rfl)
 | ((with_reducible apply Qt.not_f); exact rfl)
 | ((with_reducible apply Qt.len_slice); exact uT; exact rfl)
 | ((with_reducible apply Qt.load); exact rfl; exact ldA)
 | ((with_reducible apply Qt.fieldL); exact uT; (conv => lhs; whnf); exact cT; exact rfl)
 | ((with_reducible apply Qt.nenil_nil); exact uT; exact rfl)
 | ((with_reducible apply Qt.nenil_iface); exact uT; exact rfl)
 | ((with_reducible apply Qt.eqnil_nil); exact uT; exact rfl)
 | ((with_reducible apply Qt.eqnil_iface); exact uT; exact rfl)
 | ((with_reducible apply Qt.eqp_some); exact uT; exact rfl)
 | ((with_reducible apply Qt.eqp_none); exact uT; exact rfl)
 | ((with_reducible apply Qt.nep_some); exact uT; exact rfl)
 | ((with_reducible apply Qt.nep_none); exact uT; exact rfl)
 | ((with_reducible apply Qt.nilCheck); exact rfl)
 | ((with_reducible apply Qt.makeInterface); exact uT; exact (fun _ h => nomatch h); (conv => lhs; whnf))
 | ((with_reducible apply Qt.indexB (i := 0)); exact uT; exact cT; exact rfl; exact rfl; decide)
 | ((with_reducible apply Qt.indexB (i := 1)); exact uT; exact cT; exact rfl; exact rfl; decide)
 | ((with_reducible apply Qt.add (b := 1)); exact rfl; exact rfl; (simp only [kmax]; omega))) : Qt C L o env v := h
def za2 (ops : Array Oper) (E : List Nat × List Nat) (dn : List Nat) (k : Nat) : Bool := Nat.blt k ops.size && (!has dn k && (!has E.1 k && (!has E.2 k && zbs ops dn k)))
theorem nk {ops : Array Oper} {E : List Nat × List Nat} {dn : List Nat} {k : Nat} (h : za2 ops E dn k = true := by first | (show za2 _ _ _ 0 = true; decide +kernel) | (show za2 _ _ _ 1 = true; decide +kernel) | (show za2 _ _ _ 2 = true; decide +kernel) | (show za2 _ _ _ 3 = true; decide +kernel) | (show za2 _ _ _ 4 = true; decide +kernel) | (show za2 _ _ _ 5 = true; decide +kernel) | (show za2 _ _ _ 6 = true; decide +kernel) | (show za2 _ _ _ 7 = true; decide +kernel) | (show za2 _ _ _ 8 = true; decide +kernel) | (show za2 _ _ _ 9 = true; decide +kernel) | (show za2 _ _ _ 10 = true; decide +kernel) | (show za2 _ _ _ 11 = true; decide +kernel) | (show za2 _ _ _ 12 = true; decide +kernel) | (show za2 _ _ _ 13 = true; decide +kernel) | (show za2 _ _ _ 14 = true; decide +kernel) | (show za2 _ _ _ 15 = true; decide +kernel) | (show za2 _ _ _ 16 = true; decide +kernel) | (show za2 _ _ _ 17 = true; decide +kernel) | (show za2 _ _ _ 18 = true; decide +kernel) | (show za2 _ _ _ 19 = true; decide +kernel) | (show za2 _ _ _ 20 = true; decide +kernel) | (show za2 _ _ _ 21 = true; decide +kernel) | (show za2 _ _ _ 22 = true; decide +kernel) | (show za2 _ _ _ 23 = true; decide +kernel) | (show za2 _ _ _ 24 = true; decide +kernel) | (show za2 _ _ _ 25 = true; decide +kernel) | (show za2 _ _ _ 26 = true; decide +kernel) | (show za2 _ _ _ 27 = true; decide +kernel) | (show za2 _ _ _ 28 = true; decide +kernel) | (show za2 _ _ _ 29 = true; decide +kernel) | (show za2 _ _ _ 30 = true; decide +kernel) | (show za2 _ _ _ 31 = true; decide +kernel) | (show za2 _ _ _ 32 = true; decide +kernel) | (show za2 _ _ _ 33 = true; decide +kernel) | (show za2 _ _ _ 34 = true; decide +kernel) | (show za2 _ _ _ 35 = true; decide +kernel) | (show za2 _ _ _ 36 = true; decide +kernel) | (show za2 _ _ _ 37 = true; decide +kernel) | (show za2 _ _ _ 38 = true; decide +kernel) | (show za2 _ _ _ 39 = true; decide +kernel) | (show za2 _ _ _ 40 = true; decide +kernel) | (show za2 _ _ _ 41 = true; decide +kernel) | (show za2 _ _ _ 42 = true; decide +kernel) | (show za2 _ _ _ 43 = true; decide +kernel) | (show za2 _ _ _ 44 = true; decide +kernel) | (show za2 _ _ _ 45 = true; decide +kernel) | (show za2 _ _ _ 46 = true; decide +kernel) | (show za2 _ _ _ 47 = true; decide +kernel)) : za2 ops E dn k = true := h
theorem D.n2 {k : Nat} (hn : za2 ops E dn k = true) (ho : ops[k]? = some ⟨some d, op, ty, pos, after, none⟩) (hy : Qt C L ⟨some d, op, ty, pos, after, none⟩ env v) (hk : (zbs ops dn k && zaR ops ⟨some d, op, ty, pos, after, none⟩) = true) (hE : has E.1 k = false ∧ has E.2 k = false)
  (hsel : zaS ops = true) (hc : zem ops E dn k = true) (hd : Nat.blt d C.n = true) (hnd : zap ⟨some d, op, ty, pos, after, none⟩ = false) (h : AWl C ops Q E F (k :: dn) (env.put d v) L) : AWl C ops Q E F dn env L := D.qX ho hk hsel hc hd hnd hy h hE
theorem D.n3 {k : Nat} (hn : za2 ops E dn k = true) (ho : ops[k]? = some ⟨some d, op, ty, pos, after, some gd⟩) (hw : zaF ops env ⟨some d, op, ty, pos, after, some gd⟩ = true) (hy : Qt C L ⟨some d, op, ty, pos, after, some gd⟩ env v) (hk : (zbs ops dn k && zaR ops ⟨some d, op, ty, pos, after, some gd⟩) = true) (hE : has E.1 k = false ∧ has E.2 k = false)
  (hsel : zaS ops = true) (hc : zem ops E dn k = true) (hd : Nat.blt d C.n = true) (hnd : zap ⟨some d, op, ty, pos, after, some gd⟩ = false) (h : AWl C ops Q E F (k :: dn) (env.put d v) L) : AWl C ops Q E F dn env L := D.qgX ho hk hsel hc hd hnd hw hy h hE
theorem D.n4 {k : Nat} (hn : za2 ops E dn k = true) (ho : ops[k]? = some ⟨some d, op, ty, pos, after, some gd⟩) (hw : zaF ops env ⟨some d, op, ty, pos, after, some gd⟩ = false) (hk : (zbs ops dn k && zaR ops ⟨some d, op, ty, pos, after, some gd⟩) = true)
  (hsel : zaS ops = true) (hd : Nat.blt d C.n = true) (hnd : zap ⟨some d, op, ty, pos, after, some gd⟩ = false) (h : AWl C ops Q E F (k :: dn) (env.put d undef) L) : AWl C ops Q E F dn env L := D.pass ho hk hsel hd hnd hw h
theorem D.n5 {k : Nat} (hn : za2 ops E dn k = true) (ho : ops[k]? = some ⟨some d, op, ty, pos, after, none⟩) (hy : Qt C F ⟨some d, op, ty, pos, after, none⟩ env v) (hk : (zbs ops dn k && zaR ops ⟨some d, op, ty, pos, after, none⟩) = true) (hE : has E.1 k = false ∧ has E.2 k = false)
  (hsel : zaS ops = true) (hd : Nat.blt d C.n = true) (hnd : zap ⟨some d, op, ty, pos, after, none⟩ = false) (h : AWl C ops Q E F (k :: dn) (env.put d v) L) : AWl C ops Q E F dn env L := D.q ho hk hsel hd hnd hy h hE
structure Hid (R : Prop) : Prop where
 out : R
theorem gw {R G : Prop} (k : R) (h : Hid R → G := by intro h; (repeat first
 | with_reducible refine S.n0 ?_ | with_reducible refine TC.seq ?_ | with_reducible refine TC.region ?_ | with_reducible refine S.nil ?_ | with_reducible refine TC.block ?_ | with_reducible refine S.sk0 ?_ | with_reducible refine TC.skip ?_
 | ((with_reducible apply S.q1); exact qt; exact rfl; exact rfl)
 | ((with_reducible apply S.al); exact zT; exact rfl)
 | ((with_reducible apply S.bx); (conv => lhs; whnf); exact rfl)
 | ((with_reducible refine S.pass ?_ ?_ ?_); exact rfl; exact rfl)
 | ((with_reducible apply S.q2); exact rfl; exact qt; exact rfl; exact rfl)
 | ((with_reducible refine S.if_t ?_ ?_); exact rfl) | ((with_reducible refine S.if_f ?_ ?_); exact rfl)
 | ((with_reducible apply D.n2); exact nk; exact rfl; exact qt; kernel_rfl; exact ⟨rfl, rfl⟩; kernel_rfl; decide +kernel; exact rfl; exact rfl)
 | ((with_reducible apply D.n4); exact nk; exact rfl; exact rfl; kernel_rfl; kernel_rfl; exact rfl; exact rfl)
 | ((with_reducible apply D.n3); exact nk; exact rfl; exact rfl; exact qt; kernel_rfl; exact ⟨rfl, rfl⟩; kernel_rfl; decide +kernel; exact rfl; exact rfl)
 | ((with_reducible apply D.n5); exact nk; exact rfl; exact qt; kernel_rfl; exact ⟨rfl, rfl⟩; kernel_rfl; exact rfl; exact rfl)); exact h.out) : G := h ⟨k⟩
end wide
end Go.E
