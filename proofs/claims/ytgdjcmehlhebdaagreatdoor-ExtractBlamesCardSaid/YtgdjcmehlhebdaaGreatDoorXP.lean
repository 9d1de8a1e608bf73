/- Finds among pairs of texts; unlike openings and unlike paths of one root. -/
import Derived.Test.YtgdjcmehlhebdaaGreatDoorO1
import Derived.Test.YtgdjcmehlhebdaaGreatDoorYZs
set_option maxHeartbeats 25600000
namespace Go.E
abbrev Pr := List UInt8 × List UInt8
def isF (p : Pr) : Bool := decide (p.1 ≠ p.2) && decide (shaH p.1 = shaH p.2)
def zipX (a b : List (List UInt8)) : List Pr := if a.length = b.length then a.zip b else []
theorem zgE {p : Pr} : isF p = true ↔ p.1 ≠ p.2 ∧ shaH p.1 = shaH p.2 := by simp [isF]
theorem zgF {a b : List (List UInt8)} (h : a.length = b.length) : zipX a b = a.zip b := if_pos h
theorem zox {a b : List (List UInt8)} (h : a.length ≠ b.length) : zipX a b = [] := if_neg h
def zc2 (x : H32) (i : Nat) (ps : List H32) (k : Nat) : List UInt8 := if i / 2 ^ k % 2 = 1 then zaM (k + 1) (ps.getD k zac) (zaz x i ps k) else zaM (k + 1) (zaz x i ps k) (ps.getD k zac)
def zix (x : H32) (i : Nat) (ps : List H32) : List (List UInt8) := (List.range ps.length).map (zc2 x i ps)
theorem zeV (x : H32) (i : Nat) (ps : List H32) : (zix x i ps).length = ps.length := by simp [zix]
theorem zjr (x : H32) (i : Nat) (ps : List H32) (k : Nat) : zaz x i ps (k + 1) = shaH (zc2 x i ps k) := by
 unfold zc2
 split
 ·rename_i h; rw [zdL h]; rfl
 ·rename_i h; rw [zc7 h]; rfl
theorem zjs {x y : H32} {i : Nat} {ps qs : List H32} : ∀ k, zaz x i ps k = zaz y i qs k → (x = y ∧ ∀ j, j < k → ps.getD j zac = qs.getD j zac) ∨ ∃ j, j < k ∧ zc2 x i ps j ≠ zc2 y i qs j ∧ shaH (zc2 x i ps j) = shaH (zc2 y i qs j)
 | 0, h => .inl ⟨h, fun j hj => absurd hj (Nat.not_lt_zero _)⟩
 | k + 1, h => by
  by_cases e : zc2 x i ps k = zc2 y i qs k
  ·have h2 : zaz x i ps k = zaz y i qs k ∧ ps.getD k zac = qs.getD k zac := by
    unfold zc2 at e
    split at e
    ·have := zdR e; exact ⟨this.2, this.1⟩
    ·exact zdR e
   rcases zjs k h2.1 with ⟨a, b⟩ | ⟨j, hj, c⟩
   ·exact .inl ⟨a, fun j hj => (Nat.lt_or_ge j k).elim (b j) (fun hge => by (obtain rfl : j = k := by omega); exact h2.2)⟩
   ·exact .inr ⟨j, by omega, c⟩
  ·exact .inr ⟨k, by omega, e, by rw [← zjr, ← zjr, h]⟩
theorem zoy {x y : H32} {i : Nat} {ps qs : List H32} (hl : ps.length = qs.length) (h : zbt x i ps = zbt y i qs) (hn : ¬ (x = y ∧ ps = qs)) : ∃ p ∈ zipX (zix x i ps) (zix y i qs), isF p = true := by
 unfold zbt at h
 rw [← hl] at h
 rcases zjs ps.length h with ⟨a, b⟩ | ⟨j, hj, c1, c2⟩
 ·refine absurd ⟨a, List.ext_getElem hl fun j h1 h2 => ?_⟩ hn
  have := b j h1
  simpa [List.getD, h1, h2] using this
 ·rw [zgF (by rw [zeV, zeV, hl])]
  refine ⟨(zc2 x i ps j, zc2 y i qs j), ?_, zgE.2 ⟨c1, c2⟩⟩
  refine List.mem_iff_getElem.2 ⟨j, by rw [List.length_zip, zeV, zeV]; omega, ?_⟩
  simp [zix]
theorem zbV : ∀ (l : Nat) (xs : List Nat) (p : Nat) (ls bs ls' bs' : List H32), (zbo l xs p ls bs).length = (zbo l xs p ls' bs').length
 | 0, xs, p, ls, bs, ls', bs' => rfl
 | l + 1, xs, p, ls, bs, ls', bs' => by
  by_cases hn : xs = []
  ·subst hn; rw [zfh, zfh]
  ·have e1 := zbV l (cutN xs l (2 * p)) (2 * p) (ls.take (cutN xs l (2 * p)).length) (bs.take (zaj l (cutN xs l (2 * p)) (2 * p)).length) (ls'.take (cutN xs l (2 * p)).length) (bs'.take (zaj l (cutN xs l (2 * p)) (2 * p)).length)
   have e2 := zbV l (cutN xs l (2 * p + 1)) (2 * p + 1) (ls.drop (cutN xs l (2 * p)).length) (bs.drop (zaj l (cutN xs l (2 * p)) (2 * p)).length) (ls'.drop (cutN xs l (2 * p)).length) (bs'.drop (zaj l (cutN xs l (2 * p)) (2 * p)).length)
   rw [zbU hn, zbU hn, List.length_append, List.length_append, List.length_append, List.length_append, List.length_singleton, List.length_singleton, e1, e2]
theorem zbW {a b c d : List (List UInt8)} (h : a.length = c.length) {p : Pr} (hp : p ∈ a.zip c ∨ p ∈ b.zip d) : p ∈ (a ++ b).zip (c ++ d) := by
 rw [List.zip_append h]; exact List.mem_append.2 hp
theorem zmO : ∀ (l : Nat) (xs : List Nat) (p : Nat) (ls bs ls' bs' : List H32), xs.Pairwise (· < ·) → (∀ x ∈ xs, x / 2 ^ l = p) → ls.length = xs.length → ls'.length = xs.length → bs.length = (zaj l xs p).length → bs'.length = (zaj l xs p).length →
  zaH l xs p ls bs = zaH l xs p ls' bs' → (ls = ls' ∧ bs = bs') ∨ ∃ q ∈ (zbo l xs p ls bs).zip (zbo l xs p ls' bs'), isF q = true := by
 intro l
 induction l with
 | zero =>
  intro xs p ls bs ls' bs' hs hx h1 h2 h3 h4 he
  rcases zmN 0 xs p ls bs ls' bs' hs hx h1 h2 h3 h4 he with h | ⟨t, ht, _⟩
  ·exact .inl h
  ·cases ht
 | succ l ih =>
  intro xs p ls bs ls' bs' hs hx h1 h2 h3 h4 he
  by_cases hn : xs = []
  ·subst hn
   rw [zbJ, zbJ] at he
   rw [zbF] at h3 h4
   exact .inl ⟨by rw [List.length_eq_zero_iff.1 h1, List.length_eq_zero_iff.1 h2], zd8 h3 h4 he⟩
  ·have hpn := congrArg List.length (zcy l p xs hs hx)
   rw [List.length_append] at hpn
   rw [zcc hn, List.length_append] at h3 h4
   rw [zcd hn, zcd hn] at he
   rw [zbU hn, zbU hn]
   by_cases hj : zaM (l + 1) (zaH l (cutN xs l (2 * p)) (2 * p) (ls.take (cutN xs l (2 * p)).length) (bs.take (zaj l (cutN xs l (2 * p)) (2 * p)).length)) (zaH l (cutN xs l (2 * p + 1)) (2 * p + 1) (ls.drop (cutN xs l (2 * p)).length) (bs.drop (zaj l (cutN xs l (2 * p)) (2 * p)).length)) =
     zaM (l + 1) (zaH l (cutN xs l (2 * p)) (2 * p) (ls'.take (cutN xs l (2 * p)).length) (bs'.take (zaj l (cutN xs l (2 * p)) (2 * p)).length)) (zaH l (cutN xs l (2 * p + 1)) (2 * p + 1) (ls'.drop (cutN xs l (2 * p)).length) (bs'.drop (zaj l (cutN xs l (2 * p)) (2 * p)).length))
   ·obtain ⟨e1, e2⟩ := zdR hj
    have i1 := ih (cutN xs l (2 * p)) (2 * p) _ _ _ _ (zbN hs) zcg (by rw [List.length_take]; omega) (by rw [List.length_take]; omega) (by rw [List.length_take]; omega) (by rw [List.length_take]; omega) e1
    have i2 := ih (cutN xs l (2 * p + 1)) (2 * p + 1) _ _ _ _ (zbN hs) zcg (by rw [List.length_drop]; omega) (by rw [List.length_drop]; omega) (by rw [List.length_drop]; omega) (by rw [List.length_drop]; omega) e2
    have s1 := zbV l (cutN xs l (2 * p)) (2 * p) (ls.take (cutN xs l (2 * p)).length) (bs.take (zaj l (cutN xs l (2 * p)) (2 * p)).length) (ls'.take (cutN xs l (2 * p)).length) (bs'.take (zaj l (cutN xs l (2 * p)) (2 * p)).length)
    have s2 := zbV l (cutN xs l (2 * p + 1)) (2 * p + 1) (ls.drop (cutN xs l (2 * p)).length) (bs.drop (zaj l (cutN xs l (2 * p)) (2 * p)).length) (ls'.drop (cutN xs l (2 * p)).length) (bs'.drop (zaj l (cutN xs l (2 * p)) (2 * p)).length)
    rcases i1 with ⟨a1, a2⟩ | ⟨q, hq, h5⟩
    ·rcases i2 with ⟨b1, b2⟩ | ⟨q, hq, h5⟩
     ·left
      constructor
      ·rw [← List.take_append_drop (cutN xs l (2 * p)).length ls, a1, b1, List.take_append_drop]
      ·rw [← List.take_append_drop (zaj l (cutN xs l (2 * p)) (2 * p)).length bs, a2, b2, List.take_append_drop]
     ·exact .inr ⟨q, zbW (by rw [List.length_append, List.length_append, s1, s2]) (.inl (zbW s1 (.inr hq))), h5⟩
    ·exact .inr ⟨q, zbW (by rw [List.length_append, List.length_append, s1, s2]) (.inl (zbW s1 (.inl hq))), h5⟩
   ·have s1 := zbV l (cutN xs l (2 * p)) (2 * p) (ls.take (cutN xs l (2 * p)).length) (bs.take (zaj l (cutN xs l (2 * p)) (2 * p)).length) (ls'.take (cutN xs l (2 * p)).length) (bs'.take (zaj l (cutN xs l (2 * p)) (2 * p)).length)
    have s2 := zbV l (cutN xs l (2 * p + 1)) (2 * p + 1) (ls.drop (cutN xs l (2 * p)).length) (bs.drop (zaj l (cutN xs l (2 * p)) (2 * p)).length) (ls'.drop (cutN xs l (2 * p)).length) (bs'.drop (zaj l (cutN xs l (2 * p)) (2 * p)).length)
    exact .inr ⟨_, zbW (by rw [List.length_append, List.length_append, s1, s2]) (.inr (List.mem_singleton.2 rfl)), zgE.2 ⟨hj, he⟩⟩
theorem zjt {z : Int} {xs : List Nat} {ls bs ls' bs' : List H32} (h1 : (zbL z xs ls bs).2 = 0) (h2 : (zbL z xs ls' bs').2 = 0) (he : (zbL z xs ls bs).1 = (zbL z xs ls' bs').1) (hn : ¬ (ls = ls' ∧ bs = bs')) : ∃ q ∈ zipX (zkE z xs ls bs) (zkE z xs ls' bs'), isF q = true := by
 obtain ⟨height, rfl, hh, hi, a1, a2, a3⟩ := zlV h1
 obtain ⟨height', e, hh', hi', b1, b2, b3⟩ := zlV h2
 obtain rfl : height = height' := by omega
 rw [a3, b3] at he
 unfold zkE
 rw [if_pos h1, if_pos h2, Int.toNat_natCast]
 rw [zgF (zbV ..)]
 rcases zmO height xs 0 ls bs ls' bs' hi.rise hi.root a1 b1 a2 b2 he with h | h
 ·exact absurd h hn
 ·exact h
abbrev Px := Tx × Tx
def tx0 : Tx := (none, 0, [])
def px0 : Px := (tx0, tx0)
def pxL (p : Px) : List Value := [.slice p.1.1 p.1.2.2.length p.1.2.1, .slice p.2.1 p.2.2.2.length p.2.2.1]
def pxT (p : Px) : Pr := (p.1.2.2, p.2.2.2)
theorem zev (ps : List Px) : (ps.flatMap pxL).length = ps.length * 2 := by
 induction ps with
 | nil => rfl
 | cons t ts ih => rw [List.flatMap_cons, List.length_append, ih]; simp [pxL]; omega
theorem zlW {ps : List Px} {k i : Nat} (h : k < ps.length) (hi : i = k * 2) : ∀ j v, (pxL (ps.getD k px0))[j]? = some v → (ps.flatMap pxL)[i + j]? = some v := fun j v hj => by
 subst hi
 exact zeu (encL := pxL) (sz := 2) (fun _ => rfl) ps k _ (getD_some px0 h) j v hj
def PxRo (w : World) (M : List Nat) (ps : List Px) : Prop := ∀ p ∈ ps, Ro w M (SlA p.1.1 (zad p.1.2.2)) ∧ Ro w M (SlA p.2.1 (zad p.2.2.2))
def zipP (a b : List Tx) : List Px := a.zip b
theorem ztb (a b : List Tx) (h : a.length = b.length) : (zipP a b).map pxT = zipX (a.map (fun t => t.2.2)) (b.map (fun t => t.2.2)) := by
 rw [zgF (by rw [List.length_map, List.length_map, h]), zipP, List.zip_map, List.map_congr_left]
 intro p _; rfl
theorem zqM {a b : List Tx} {k : Nat} (h1 : k < a.length) (h2 : k < b.length) : (a.take (k + 1)).zip (b.take (k + 1)) = (a.take k).zip (b.take k) ++ [(a.getD k tx0, b.getD k tx0)] := by
 rw [List.take_succ_eq_append_getElem h1, List.take_succ_eq_append_getElem h2, List.zip_append (by simp; omega)]
 simp [List.getD, h1, h2]
theorem zqN (a b : List Tx) {k : Nat} (h1 : a.length ≤ k) (h2 : b.length ≤ k) : (a.take k).zip (b.take k) = zipP a b := by
 rw [List.take_of_length_le h1, List.take_of_length_le h2]; rfl
def pr0 : Pr := ([], [])
def plc (l : List Pr) : Nat := l.findIdx isF
theorem ztc {l : List Pr} {k : Nat} (hk : k < l.length) (h1 : ∀ i, i < k → isF (l.getD i pr0) = false) (h2 : isF (l.getD k pr0) = true) : plc l = k := by
 refine (List.findIdx_eq hk).2 ⟨by simpa [List.getD, hk] using h2, fun j hj => ?_⟩
 have := h1 j hj
 simpa [List.getD, Nat.lt_trans hj hk] using this
theorem zsk {l : List Pr} (h : ∀ i, i < l.length → isF (l.getD i pr0) = false) : plc l = l.length := by
 refine List.findIdx_eq_length.2 fun x hx => ?_
 obtain ⟨i, hi, rfl⟩ := List.mem_iff_getElem.1 hx
 have := h i hi
 simpa [List.getD, hi] using this
theorem ztd {l : List Pr} (h : plc l < l.length) : isF (l.getD (plc l) pr0) = true := by
 have := List.findIdx_getElem (w := h)
 have e : l.getD (plc l) pr0 = l[plc l] := by simp [List.getD, h]
 rw [e]; exact this
theorem zfZ {l : List Pr} (h : ∃ p ∈ l, isF p = true) : plc l < l.length := List.findIdx_lt_length.2 h
theorem ziy {ps : List Px} {k : Nat} (h : k < ps.length) : (ps.map pxT).getD k pr0 = pxT (ps.getD k px0) := by simp [List.getD, h]
theorem zcV {ps : List Px} {k : Nat} (h : k < ps.length) : ps.getD k px0 ∈ ps := by
 rw [show ps.getD k px0 = ps[k] by simp [List.getD, h]]; exact List.getElem_mem h
def zbl : Option (List (List UInt8)) → Option (List (List UInt8)) → List Pr
 | some a, some b => zipX a b
 | _, _ => []
def zipE (a b : List Tx) : List Px := if a.length = b.length then zipP a b else []
theorem zte (a b : List Tx) : (zipE a b).map pxT = zipX (a.map (fun t => t.2.2)) (b.map (fun t => t.2.2)) := by
 unfold zipE
 split
 ·rename_i h; exact ztb a b h
 ·rename_i h; rw [zox (by rw [List.length_map, List.length_map]; exact h)]; rfl
theorem zlX {a b : List Tx} {p : Px} (h : p ∈ zipE a b) : p.1 ∈ a ∧ p.2 ∈ b := by
 unfold zipE at h
 split at h
 ·exact List.of_mem_zip (a := p.1) (b := p.2) h
 ·cases h
theorem zqO {a b : List Tx} : ∀ p ∈ zipE a b, zaN p.1 ∈ a.map zaN ++ b.map zaN ∧ zaN p.2 ∈ a.map zaN ++ b.map zaN := fun p hp =>
 ⟨List.mem_append.2 (.inl (List.mem_map_of_mem (zlX hp).1)), List.mem_append.2 (.inr (List.mem_map_of_mem (zlX hp).2))⟩
theorem zsl {A B : OAd} {n c m d : Nat} : ∀ u ∈ [Value.slice A n c, Value.slice B m d], u.oneCell' = true := fun u hu => (List.mem_cons.1 hu).elim (fun e => by rw [e]; rfl) (fun h => by rw [List.mem_singleton.1 h]; rfl)
def zc3 (x : H32) (i : Nat) (ps : List H32) : Option (List (List UInt8)) := if zdk i ps.length then some (zix x i ps) else none
theorem zkN {x : H32} {i : Nat} {ps : List H32} (h : zdk i ps.length) : zc3 x i ps = some (zix x i ps) := if_pos h
theorem zsm {x : H32} {i : Nat} {ps : List H32} (h : ¬ zdk i ps.length) : zc3 x i ps = none := if_neg h
def plcI (l : List Pr) : Int := if plc l < l.length then (plc l : Int) else -1
theorem zrS {l : List Pr} (h : plc l < l.length) : plcI l = (plc l : Int) := if_pos h
theorem zrT {l : List Pr} (h : ¬ plc l < l.length) : plcI l = -1 := if_neg h
def PxLe (ps : List Px) : Prop := ∀ p ∈ ps, p.1.2.2.length ≤ 70368744177664 ∧ p.2.2.2.length ≤ 70368744177664
def zbp (z : Int) (xs : List Nat) (ls bs : List H32) : Option (List (List UInt8)) := if (zbL z xs ls bs).2 = 0 then some (zkE z xs ls bs) else none
theorem ziz {z : Int} {xs : List Nat} {ls bs : List H32} (h : (zbL z xs ls bs).2 ≠ 0) : zbp z xs ls bs = none := if_neg h
theorem zkO {height : Nat} (hh : height ≤ 32) {xs : List Nat} {ls bs : List H32} (hi : idxOk height xs) (h2 : ls.length = xs.length) (h3 : bs.length = (zaj height xs 0).length) : zbp (height : Int) xs ls bs = some (zbo height xs 0 ls bs) := by
 have h : (zbL (height : Int) xs ls bs).2 = 0 := by rw [zcH hh, zit hi h2 h3]
 rw [zbp, if_pos h, zkE, if_pos h]; rfl
end Go.E
namespace Go.Proofs.YtgdjcmehlhebdaaGreatDoor
open _root_.Go.Proofs.Tryz
open Go.E
set_option maxRecDepth 4000
theorem zoz (i n : Nat) (hi : i < 18446744073709551616) (w0 : World) :
  Calls prog 192 #[.int .u64 (i : Int), .int .i64 (n : Int)] w0 (Post w0 [] fun v L => v = .bool (decide (zdk i n)) ∧ L = []) := by
 refine co 17 [.tmp 4] func192 ?_
 refine gw ?_
 refine S.dec rfl rfl (Qt.gt (b := 32) rfl rfl) (fun h7 => gw ?_) (fun h7 => gw ?_)
 ·refine TC.ret (fR ?_)
  exact ⟨(congrArg Value.bool (decide_eq_false (fun h => by have h1 : n ≤ 32 := h.1; omega))).symm, rfl⟩
 ·refine TC.loop (γ := Nat) [8, 9, 10, 13, 14, 0, 11, 12, 5] (fun k => [(5, .int .i64 (k : Int)), (0, .int .u64 ((i / 2 ^ k : Nat) : Int))]) (fun _ => _) (fun k => k ≤ n) (fun k => n - k) (0)
   (Nat.zero_le _) ⟨Out.refl _ _, (List.forall_mem_cons.2 ⟨rfl, (List.forall_mem_cons.2 ⟨(by show Value.int .u64 (i : Int) = Value.int .u64 ((i / 2 ^ 0 : Nat) : Int); rw [Nat.pow_zero, Nat.div_one]), (fun _ h => nomatch h)⟩)⟩)⟩ sr ?_
  rintro k u hk
  refine gw ?_
  refine S.dec rfl rfl (Qt.lt rfl rfl) (fun h10 => gw ?_) (fun h10 => gw ?_)
  ·refine S.r (Qt.as (Qt.quo (b := 2) rfl rfl ow (by have := Nat.div_le_self i (2 ^ k); simp only [kmax]; omega)) (by rw [zay])) (gw ?_)
   refine ⟨k + 1, ?_, ?_, ⟨?_, ag⟩, sr⟩
   ·show _ ≤ _; omega
   ·show _ < _; dsimp only; omega
   exact outs
  ·refine TC.exit (TC.seq ?_)
   have hke : k = n := by omega
   have hiff : i / 2 ^ k = 0 ↔ zdk i n := by subst hke; exact ⟨fun h => ⟨Nat.le_of_not_lt h7, h⟩, fun h => h.2⟩
   refine gw ?_
   refine S.r (Qt.as (v' := .bool (decide (zdk i n))) (Qt.eq (a := i / 2 ^ k) (b := 0) rfl rfl) (by rw [decide_eq_decide.2 hiff])) (gw ?_)
   refine TC.ret (fR ?_)
   exact ⟨rfl, rfl⟩
theorem ztf (i n : Nat) (hi : i < 18446744073709551616) (w0 : World) : Calls prog 192 #[.int .u64 (i : Int), .int .i64 (n : Int)] w0 (Ret w0 (.bool (decide (zdk i n)))) := Calls.ret (zoz i n hi w0)
theorem ztg (i n : Nat) (hi : i < 18446744073709551616) (h : zdk i n) (w0 : World) : Calls prog 192 #[.int .u64 (i : Int), .int .i64 (n : Int)] w0 (Ret w0 (.bool true)) := by
 have hr := ztf i n hi w0
 rwa [decide_eq_true h] at hr
theorem zfi (x : H32) (i : Nat) (A : OAd) (n c : Nat) (ps : List H32) (hn : ps.length = n) (hi : i < 18446744073709551616) (hf : zdk i n) (w0 : World) (hR : Ro w0 [] (SlA A (hcs ps))) (hT : Tabs 3 1 w0 []) : Calls prog 170 #[hv x, .int .u64 (i : Int), .slice A n c] w0 (Ret w0 (.tuple #[hv (zbt x i ps), .nilIface])) := by
 refine Calls.ret ?_
 refine co 57 [.cell 6 49, .tmp 7] func170 ?_
 have hf1 := hf.1
 refine gw ?_
 intro b3
 refine gw ?_
 intro b6
 refine gw ?_
 refine S.r (Qt.dF (Qt.gt (b := 32) rfl rfl) ow) (gw ?_)
 refine S.qg rfl rfl rfl (Qt.shrN rfl rfl km) ?_
 refine S.qg rfl rfl rfl (Qt.dF (Qt.ne (b := 0) rfl rfl) (fun h => h hf.2)) (gw ?_)
 refine TC.loop (γ := Nat) [29, 30, 31, 32, 9, 8, 33, 34, 10, 11, 35, 36, 37, 38, 39, 40, 41, 43, 44, 45, 46, 47, 42, 48, 49, 12, 13, 50, 51, 52, 53, 7, 54, 55, 28] (fun k => [(28, .int .i64 (k : Int))]) (fun k => [Blk b6 49 (List.replicate 32 (.int .u8 0)), Blk b3 49 (hvl (zaz x i ps k))]) (fun k => k ≤ n) (fun k => n - k) (0)
  (Nat.zero_le _) ⟨Out.refl _ _, ag⟩ sr ?_
 rintro k u hk
 refine gw ?_
 refine S.dec rfl rfl (Qt.lt rfl rfl) (fun h29 => gw ?_) (fun h29 => gw ?_)
 ·refine S.r (Qt.index uT cT rfl rfl ow (Has.ro hR) (by rw [zah]; omega)) ?_
  refine S.r (Qt.load rfl (Ld.hashS (Has.ro hR) k rT ce49 ow rfl)) (gw ?_)
  intro b9
  refine gw ?_
  refine S.opN rfl (OpV.storeV0 (v := hv (ps.getD k zac)) rfl rfl (zab ce49) (zai _) (zaf _) ?_)
  refine gw ?_
  refine dr ([4, 5], [2, 3]) (gw ?_)
  refine D.two (k1 := 2) (k2 := 3) sr rfl rfl (by kernel_rfl) (by kernel_rfl) (by kernel_rfl) (by kernel_rfl) (by kernel_rfl) (by kernel_rfl) rfl rfl rfl ze49 ze49 (fun b10 b11 => ?_)
  refine D.oN 4 rfl (OpV.storeV1 (v := hv (zaz x i ps k)) rfl rfl (zab ce49) (zai _) (zaf _) (sbk ?_))
  refine D.oN 5 rfl (OpV.storeV0 (v := hv (ps.getD k zac)) rfl rfl (zab ce49) (zai _) (zaf _) (sbk ?_))
  refine D.fi (gw ?_)
  refine S.r (Qt.shrN rfl rfl km) ?_
  refine S.r (Qt.as (Qt.andN (b := 1) rfl rfl (by have := Nat.div_le_self i (2 ^ k); simp only [kmax]; omega) km) (by rw [Nat.and_one_is_mod])) ?_
  refine S.dec rfl rfl (Qt.eq (b := 1) rfl rfl) (fun h39 => gw ?_) (fun h39 => gw ?_)
  ·refine S.draw ([2, 3], []) mixed (sd (sd (sk (sk (sk sn0))))) (gw ?_)
   refine D.oN 2 rfl (OpV.storeV1 (v := hv (ps.getD k zac)) rfl rfl (zab ce49) (zai _) (by rw [zaf, zaf]) (sbk ?_))
   refine D.oN 3 rfl (OpV.storeV0 (v := hv (zaz x i ps k)) rfl rfl (zab ce49) (zai _) (by rw [zaf, zaf]) (sbk ?_))
   refine D.fi (gw ?_)
   refine S.c0 J117 (fun w hw => (by rw [zdL h39]; exact zhC (k + 1) ow ow _ _ w (hT.at hw) : Calls prog 117 #[.int .i64 ((k + 1 : Nat) : Int), hv (ps.getD k zac), hv (zaz x i ps k)] w (Ret w (.tuple #[hv (zaz x i ps (k + 1)), .nilIface])))) (gw ?_)
   intro b12
   refine S.opN rfl (OpV.storeV0 (v := hv (zaz x i ps (k + 1))) rfl rfl (zab ce49) (zai _) (zaf _) ?_)
   refine gw ?_
   refine S.opN rfl (OpV.storeV5 (v := hv (zaz x i ps (k + 1))) rfl rfl (zab ce49) (zai _) (by rw [zaf, zag]) ?_)
   refine gw ?_
   refine ⟨k + 1, ?_, ?_, ⟨?_, ag⟩, Sub.trans (sk (sk (sd (sd (sd (sd sn0)))))) (Sub.trans (sk (Sub.trans (sk sr) (Sub.of_perm pm4))) (Sub.of_perm pm4))⟩
   ·show _ ≤ _; omega
   ·show _ < _; dsimp only; omega
   exact outs
  ·refine S.c0 J117 (fun w hw => (by rw [zc7 h39]; exact zhC (k + 1) ow ow _ _ w (hT.at hw) : Calls prog 117 #[.int .i64 ((k + 1 : Nat) : Int), hv (zaz x i ps k), hv (ps.getD k zac)] w (Ret w (.tuple #[hv (zaz x i ps (k + 1)), .nilIface])))) (gw ?_)
   intro b12
   refine S.opN rfl (OpV.storeV0 (v := hv (zaz x i ps (k + 1))) rfl rfl (zab ce49) (zai _) (zaf _) ?_)
   refine gw ?_
   refine S.opN rfl (OpV.storeV5 (v := hv (zaz x i ps (k + 1))) rfl rfl (zab ce49) (zai _) (by rw [zaf, zag]) ?_)
   refine gw ?_
   refine ⟨k + 1, ?_, ?_, ⟨?_, ag⟩, Sub.trans (sk (sk (sd (sd (sd (sd sn0)))))) (Sub.trans (sk (Sub.trans (sk sr) (Sub.of_perm pm4))) (Sub.of_perm pm4))⟩
   ·show _ ≤ _; omega
   ·show _ < _; dsimp only; omega
   exact outs
 ·refine TC.exit (TC.seq (TC.region ?_))
  obtain rfl : k = n := by omega
  refine gw ?_
  refine S.opN rfl (OpV.storeV0 (v := hv (_)) rfl rfl (zab ce49) (zai _) (zaf _) ?_)
  refine gw ?_
  refine TC.ret ?_
  refine finQ.ret (RVs.cell rfl (Ld.all hz0 rT (zab ce49)) rv) sn ?_
  subst hn
  exact ⟨rfl, rfl⟩
theorem zqP (x : H32) (i : Nat) (A : OAd) (n c : Nat) (hi : i < 18446744073709551616) (hf : ¬ zdk i n) (w0 : World) : Calls prog 170 #[hv x, .int .u64 (i : Int), .slice A n c] w0 (Ret w0 (.tuple #[hv zac, .iface 73 (.int .i64 1)])) := by
 refine Calls.ret ?_
 refine co 57 [.cell 6 49, .tmp 7] func170 ?_
 refine gw ?_
 intro b3
 refine gw ?_
 intro b6
 refine gw ?_
 refine S.dec rfl rfl (Qt.gt (b := 32) rfl rfl) (fun h16 => gw ?_) (fun h16 => gw ?_)
 ·refine S.r (Qt.build (v := hv zac) rfl (fun _ => by kernel_rfl)) (gw ?_)
  refine S.opN rfl (OpV.storeV0 (v := hv (zac)) rfl rfl (zab ce49) (zai _) (zaf _) ?_)
  refine gw ?_
  refine TC.ret ?_
  refine finQ.ret (RVs.cell rfl (Ld.all hz0 rT (zab ce49)) rv) sn ?_
  exact ⟨rfl, rfl⟩
 ·refine S.qg rfl rfl rfl (Qt.shrN rfl rfl km) ?_
  refine S.qg rfl rfl rfl (Qt.dT (Qt.ne (b := 0) rfl rfl) (fun h0 => hf ⟨Nat.le_of_not_lt h16, h0⟩)) (gw ?_)
  refine S.r (Qt.build (v := hv zac) rfl (fun _ => by kernel_rfl)) (gw ?_)
  refine S.opN rfl (OpV.storeV0 (v := hv (zac)) rfl rfl (zab ce49) (zai _) (zaf _) ?_)
  refine gw ?_
  refine TC.ret ?_
  refine finQ.ret (RVs.cell rfl (Ld.all hz0 rT (zab ce49)) rv) sn ?_
  exact ⟨rfl, rfl⟩
end Go.Proofs.YtgdjcmehlhebdaaGreatDoor
