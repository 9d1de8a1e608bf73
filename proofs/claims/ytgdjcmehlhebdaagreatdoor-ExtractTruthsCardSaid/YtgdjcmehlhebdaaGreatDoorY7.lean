/- The program logic: any bytes as a string; strings told equal or not. -/
import Derived.Test.YtgdjcmehlhebdaaGreatDoorY5
import Derived.Laws.MakeOwn
set_option maxHeartbeats 25600000
set_option linter.all false
namespace Go.E
section
variable {C : Ctx} {env : Env} {L : List Assn} {dst : Option Tmp} {ty ty2 : TypeId} {po : String} {af : Array Edge} {gj : Option (Nat × Bool)} {x y : Operand} {T e src dstT : TypeId}
theorem Z8 {A : y8} {n c : Nat} {bs : List UInt8} (hs : C.P.underlying src = some (.slice e)) (he : C.P.underlying e = some (.int .u8)) (hd : C.P.underlying dstT = some .string) (hx : env.ev x = .slice A n c) (hn : n = bs.length) (h : Has C L (SlA A (e9 bs))) :
  Qt C L ⟨dst, .convert src dstT x, ty, po, af, gj⟩ env (.string ⟨bs.toArray⟩) := fun w hw => by
 rcases Nat.eq_zero_or_pos bs.length with h0 | h0
 ·obtain rfl : bs = [] := List.length_eq_zero_iff.1 h0
  subst hn
  cases A with
  | none =>
   have k := run_convert_bytes_string (P := C.P) w src dstT e none 0 c hs he hd
   have k2 : (Conv.bytesToString (.slice none 0 c)).run C.P w = .ok (.string ⟨#[]⟩) w := rfl
   have hx' : env.ev x = .slice none 0 c := hx
   simp [execOp, hx', k.trans k2]
  | some a =>
   have k : (Go.convert src dstT (.slice (some a) 0 c)).run C.P w = .ok (.string ⟨#[]⟩) w := run_convert_bytes_back (P := C.P) w src dstT e a c [] hs he hd fun j hj => by cases hj
   have hx' : env.ev x = .slice (some a) 0 c := hx
   simp [execOp, hx', k]
 ·exact zbY hs he hd hx hn h0 h w hw
theorem yM {s t : List UInt8} (hx : env.ev x = .string ⟨s.toArray⟩) (hy : env.ev y = .string ⟨t.toArray⟩) : Qt C L ⟨dst, .binOp .eql T x y ty2, ty, po, af, gj⟩ env (.bool (decide (s = t))) := fun w _ => by
 simp [execOp, hx, hy, binOp, eqGuard, Op.stringOp]
 rw [Bool.eq_iff_iff]; simp
end
/-! two proofs of one root -/
section
variable {C : Ctx} {env : Env} {L : List Assn} {dst : Option Tmp} {ty ty2 : TypeId} {po : String} {af : Array Edge} {gj : Option (Nat × Bool)} {x y : Operand} {T : TypeId} {s t : List UInt8}
theorem zgs (hx : env.ev x = .string ⟨s.toArray⟩) (hy : env.ev y = .string ⟨t.toArray⟩) : Qt C L ⟨dst, .binOp .neq T x y ty2, ty, po, af, gj⟩ env (.bool (decide (s ≠ t))) := fun w _ => by
 simp [execOp, hx, hy, binOp, eqGuard, Op.stringOp]
 rw [Bool.eq_iff_iff]; simp
end
abbrev Pr := List UInt8 × List UInt8
def zF (p : Pr) : Bool := decide (p.1 ≠ p.2) && decide (K3 p.1 = K3 p.2)
def yF (a b : List (List UInt8)) : List Pr := if a.length = b.length then a.zip b else []
theorem HU {a b : List (List UInt8)} (h : a.length = b.length) : yF a b = a.zip b := if_pos h
theorem HV {a b : List (List UInt8)} (h : a.length ≠ b.length) : yF a b = [] := if_neg h
def mN (x : i6) (i : Nat) (ps : List i6) (k : Nat) : List UInt8 := if i / 2 ^ k % 2 = 1 then x5 (k + 1) (ps.getD k e7) (w9 x i ps k) else x5 (k + 1) (w9 x i ps k) (ps.getD k e7)
def HC (x : i6) (i : Nat) (ps : List i6) : List (List UInt8) := (List.range ps.length).map (mN x i ps)
abbrev Px := Tx × Tx
def X3 : Tx := (none, 0, [])
def G7 : Px := (X3, X3)
def aZ (p : Px) : List Value := [.slice p.1.1 p.1.2.2.length p.1.2.1, .slice p.2.1 p.2.2.2.length p.2.2.1]
def N9 (p : Px) : Pr := (p.1.2.2, p.2.2.2)
theorem P4 (ps : List Px) : (ps.flatMap aZ).length = ps.length * 2 := by
 induction ps with
 | nil => rfl
 | cons t ts ih => rw [List.flatMap_cons, List.length_append, ih]; simp [aZ]; omega
theorem cF {ps : List Px} {k i : Nat} (h : k < ps.length) (hi : i = k * 2) : ∀ j v, (aZ (ps.getD k G7))[j]? = some v → (ps.flatMap aZ)[i + j]? = some v := fun j v hj => by
 subst hi
 exact aW (encL := aZ) (sz := 2) (fun _ => rfl) ps k _ (getD_some G7 h) j v hj
def PxRo (w : World) (M : List Nat) (ps : List Px) : Prop := ∀ p ∈ ps, Ro w M (SlA p.1.1 (e9 p.1.2.2)) ∧ Ro w M (SlA p.2.1 (e9 p.2.2.2))
def CL (a b : List Tx) : List Px := a.zip b
theorem zjI (a b : List Tx) (h : a.length = b.length) : (CL a b).map N9 = yF (a.map (fun t => t.2.2)) (b.map (fun t => t.2.2)) := by
 rw [HU (by rw [List.length_map, List.length_map, h]), CL, List.zip_map, List.map_congr_left]
 intro p _; rfl
theorem FK {a b : List Tx} {k : Nat} (h1 : k < a.length) (h2 : k < b.length) : (a.take (k + 1)).zip (b.take (k + 1)) = (a.take k).zip (b.take k) ++ [(a.getD k X3, b.getD k X3)] := by
 rw [List.take_succ_eq_append_getElem h1, List.take_succ_eq_append_getElem h2, List.zip_append (by simp; omega)]
 simp [List.getD, h1, h2]
theorem FJ (a b : List Tx) {k : Nat} (h1 : a.length ≤ k) (h2 : b.length ≤ k) : (a.take k).zip (b.take k) = CL a b := by
 rw [List.take_of_length_le h1, List.take_of_length_le h2]; rfl
end Go.E
namespace Go.Proofs.YtgdjcmehlhebdaaGreatDoor
open _root_.Go.Proofs.Tryz
open Go.E
set_option maxRecDepth 4000
theorem GM (A) (c : Nat) (t1 : List UInt8) (B) (d : Nat) (t2 : List UInt8) (w0) (hA : Ro w0 [] (SlA A (e9 t1))) (hB : Ro w0 [] (SlA B (e9 t2))) : cR 113 #[sL A t1.length c, sL B t2.length d] w0 (.bool (decide (t1 = t2))) := by
 refine cQ (co 10 [.tmp 4] func113 ?_)
 refine gw ?_
 refine e6 (Z8 (bs := t1) uT uT uT rfl rfl (c9 hA)) (gw ?_)
 refine e6 (Z8 (bs := t2) uT uT uT rfl rfl (c9 hB)) (e6 (yM (s := t1) (t := t2) rfl rfl) (gw ?_))
 exact tR
theorem oE (A) (c : Nat) (t1 : List UInt8) (B) (d : Nat) (t2 : List UInt8) (w0) (hA : Ro w0 [] (SlA A (e9 t1))) (hB : Ro w0 [] (SlA B (e9 t2))) : cR 49 #[sL A t1.length c, sL B t2.length d] w0 (.bool (decide (t1 = t2))) := by
 refine cQ (co 10 [.tmp 4] func49 ?_)
 refine gw ?_
 refine e6 (Z8 (bs := t1) uT uT uT rfl rfl (c9 hA)) (gw ?_)
 refine e6 (Z8 (bs := t2) uT uT uT rfl rfl (c9 hB)) (e6 (yM (s := t1) (t := t2) rfl rfl) (gw ?_))
 exact tR
theorem wQ (A1) (n1 a1 : Nat) (B1) (m1 b1 : Nat) (A2) (n2 a2 : Nat) (B2) (m2 b2 : Nat) (w0) :
  cP 143 #[.bool true, .agg #[sL A1 n1 a1, sL B1 m1 b1], .agg #[sL A2 n2 a2, sL B2 m2 b2]] w0 fun v L => v = .agg #[sL A1 n1 a1, sL B1 m1 b1] ∧ L = [] := by
 refine co 10 [.cell 6 182] func143 ?_
 refine gw ?_
 intro b4
 refine gw ?_
 intro b5
 refine gw ?_
 intro b6
 refine gw ?_
 refine e6 (a8 rfl (i4 (vs := vl (.agg #[sL A1 n1 a1, sL B1 m1 b1])) aH rT ce182)) (j9 rfl (j5 rfl cw (by exact ce182) (by rfl) (by rfl) (gw ?_)))
 exact a9 (finQ.ret (j7 rfl (i4 w5 rT (ce182)) n9) sn (rr))
theorem sR (A1) (n1 a1 : Nat) (B1) (m1 b1 : Nat) (A2) (n2 a2 : Nat) (B2) (m2 b2 : Nat) (w0) :
  cP 143 #[.bool false, .agg #[sL A1 n1 a1, sL B1 m1 b1], .agg #[sL A2 n2 a2, sL B2 m2 b2]] w0 fun v L => v = .agg #[sL A2 n2 a2, sL B2 m2 b2] ∧ L = [] := by
 refine co 10 [.cell 6 182] func143 ?_
 refine gw ?_
 intro b4
 refine gw ?_
 intro b5
 refine gw ?_
 intro b6
 refine gw ?_
 refine e6 (a8 rfl (i4 (vs := vl (.agg #[sL A2 n2 a2, sL B2 m2 b2])) N3 rT ce182)) (j9 rfl (j5 rfl cw (by exact ce182) (by rfl) (by rfl) (gw ?_)))
 exact a9 (finQ.ret (j7 rfl (i4 w5 rT (ce182)) n9) sn (rr))
theorem rP (A) (c : Nat) (b : List UInt8) (w0) (hR : Ro w0 [] (SlA A (e9 b))) (hl : b.length ≤ 70368744177664) :
  cP 111 #[sL A b.length c] w0 fun v L => ∃ O d, v = sL O b.length d ∧ L = [OwnA 5 1 O b.length d (e9 b)] := by
 refine co 8 [.tmp 2] func111 ?_
 refine m6 5 1 (gw ?_)
 refine e6 (tM uT rfl) (gw ?_)
 refine eK rfl (fun hn => gw ?_) (fun hn => gw ?_)
 ·refine a9 (D7 sr ?_)
  obtain rfl : A = none := Option.isNone_iff_eq_none.1 hn
  obtain rfl : b = [] := uW (dP hR.1)
  exact ⟨none, 0, rfl, rfl⟩
 ·refine z7 (eH uT ⟨_, elem5⟩ (fun g5 => ?_))
  refine gw ?_
  refine z7 (Y6 (news := e9 b) uT elem5 rfl rfl (c9 hR) (by rw [o3]; omega) (r9 _) kx ow (fun O d => ?_))
  refine gw ?_
  refine a9 (D7 (sk (sd sn)) ?_)
  exact ⟨O, d, by rw [Nat.zero_add]; rfl, by rw [Nat.zero_add, List.nil_append]⟩
theorem qI (A) (c : Nat) (t1 : List UInt8) (B) (d : Nat) (t2 : List UInt8) (w0) (hA : Ro w0 [] (SlA A (e9 t1))) (hB : Ro w0 [] (SlA B (e9 t2))) (h1 : t1.length ≤ 70368744177664) (h2 : t2.length ≤ 70368744177664) (hT : Tabs 3 1 w0 []) :
  cP 50 #[.agg #[sL A t1.length c, sL B t2.length d]] w0 fun v L => v = .bool (zF (t1, t2)) ∧ L = [] := by
 refine co 18 [.tmp 2] func50 ?_
 refine gw ?_
 intro b1
 refine gw ?_
 refine dw ([], []) (gw ?_)
 by_cases he : t1 = t2
 ·refine I7 4 rfl en (fun w hw => (by have h := GM A c t1 B d t2 w (Rd.ro hA w hw) (Rd.ro hB w hw); rw [decide_eq_true he] at h; exact h)) (gw ?_)
  refine p7 (a9 (fR ?_))
  exact ⟨by rw [zF, decide_eq_false (fun h => h he)]; rfl, rfl⟩
 ·refine I7 4 rfl en (fun w hw => (by have h := GM A c t1 B d t2 w (Rd.ro hA w hw) (Rd.ro hB w hw); rw [decide_eq_false he] at h; exact h)) (gw ?_)
  refine Q7 9 rfl rfl en (fun w hw => cQ (fC A c t1 w (Rd.ro hA w hw) h1 (hT.at hw))) (gw ?_)
  refine Q7 12 rfl rfl en (fun w hw => cQ (fC B d t2 w (Rd.ro hB w hw) h2 (hT.at hw))) (C2 13 rfl rfl (FM (a := K3 t1) (b := K3 t2) guard49 uT uT cT rfl rfl) (gw ?_))
  refine p7 (a9 (fR ?_))
  exact ⟨by rw [zF, decide_eq_true he, Bool.true_and]; rfl, rfl⟩
theorem qJ (A) (c : Nat) (t1 : List UInt8) (B) (d : Nat) (t2 : List UInt8) (w0) (hA : Ro w0 [] (SlA A (e9 t1))) (hB : Ro w0 [] (SlA B (e9 t2))) (h1 : t1.length ≤ 70368744177664) (h2 : t2.length ≤ 70368744177664) (hT : Tabs 2 0 w0 []) :
  cP 51 #[.agg #[sL A t1.length c, sL B t2.length d]] w0 fun v L => v = .bool (zF (t1, t2)) ∧ L = [] := by
 refine co 19 [.tmp 2] func51 ?_
 refine gw ?_
 intro b1
 refine gw ?_
 refine dw ([], []) (gw ?_)
 refine c6 2 rfl (Z8 (bs := t1) uT uT uT rfl rfl (c9 hA)) (gw ?_)
 refine c6 5 rfl (Z8 (bs := t2) uT uT uT rfl rfl (c9 hB)) (aY (k := 6) rfl kr kr kr rfl rfl (zgs (s := t1) (t := t2) rfl rfl) (fun he => gw ?_) (fun he => gw ?_))
 ·refine Q7 10 rfl rfl en (fun w hw => cQ (Y2 A c t1 w (Rd.ro hA w hw) h1 (hT.at hw))) (gw ?_)
  refine Q7 13 rfl rfl en (fun w hw => cQ (Y2 B d t2 w (Rd.ro hB w hw) h2 (hT.at hw))) (C2 14 rfl rfl (FM (a := K3 t1) (b := K3 t2) guard49 uT uT cT rfl rfl) (gw ?_))
  refine p7 (a9 (fR ?_))
  exact ⟨by rw [zF, decide_eq_true he, Bool.true_and]; rfl, rfl⟩
 ·refine p7 (a9 (fR ?_))
  exact ⟨by rw [zF, decide_eq_false he]; rfl, rfl⟩
end Go.Proofs.YtgdjcmehlhebdaaGreatDoor
namespace Go.E
def KR : Pr := ([], [])
def X0 (l : List Pr) : Nat := l.findIdx zF
theorem JI {l : List Pr} {k : Nat} (hk : k < l.length) (h1 : ∀ i, i < k → zF (l.getD i KR) = false) (h2 : zF (l.getD k KR) = true) : X0 l = k := by
 refine (List.findIdx_eq hk).2 ⟨by simpa [List.getD, hk] using h2, fun j hj => ?_⟩
 have := h1 j hj
 simpa [List.getD, Nat.lt_trans hj hk] using this
theorem HD {l : List Pr} (h : ∀ i, i < l.length → zF (l.getD i KR) = false) : X0 l = l.length := by
 refine List.findIdx_eq_length.2 fun x hx => ?_
 obtain ⟨i, hi, rfl⟩ := List.mem_iff_getElem.1 hx
 have := h i hi
 simpa [List.getD, hi] using this
theorem jH {ps : List Px} {k : Nat} (h : k < ps.length) : (ps.map N9).getD k KR = N9 (ps.getD k G7) := by simp [List.getD, h]
theorem EL {ps qs : List Px} (e : ps.map N9 = qs.map N9) {k : Nat} (h : k < ps.length) : N9 (ps.getD k G7) = N9 (qs.getD k G7) := by
 have hl : ps.length = qs.length := by have := congrArg List.length e; simpa using this
 rw [← jH h, ← jH (hl ▸ h), e]
theorem K0 {ps : List Px} {k : Nat} (h : k < ps.length) : ps.getD k G7 ∈ ps := by
 rw [show ps.getD k G7 = ps[k] by simp [List.getD, h]]; exact List.getElem_mem h
def D4 : Option (List (List UInt8)) → Option (List (List UInt8)) → List Pr
 | some a, some b => yF a b
 | _, _ => []
def dE (a b : List Tx) : List Px := if a.length = b.length then CL a b else []
theorem CK (a b : List Tx) : (dE a b).map N9 = yF (a.map (fun t => t.2.2)) (b.map (fun t => t.2.2)) := by
 unfold dE
 split
 ·rename_i h; exact zjI a b h
 ·rename_i h; rw [HV (by rw [List.length_map, List.length_map]; exact h)]; rfl
theorem xZ (a b : List Tx) : (dE a b).length ≤ a.length := by
 unfold dE
 split
 ·rw [CL, List.length_zip]; omega
 ·exact Nat.zero_le _
theorem FI {a b : List Tx} {p : Px} (h : p ∈ dE a b) : p.1 ∈ a ∧ p.2 ∈ b := by
 unfold dE at h
 split at h
 ·exact List.of_mem_zip (a := p.1) (b := p.2) h
 ·cases h
theorem pT {a b : List Tx} : ∀ p ∈ dE a b, u3 p.1 ∈ a.map u3 ++ b.map u3 ∧ u3 p.2 ∈ a.map u3 ++ b.map u3 := fun p hp =>
 ⟨List.mem_append.2 (.inl (List.mem_map_of_mem (FI hp).1)), List.mem_append.2 (.inr (List.mem_map_of_mem (FI hp).2))⟩
theorem CI {A B : y8} {n c m d : Nat} : ∀ u ∈ [Value.slice A n c, Value.slice B m d], u.oneCell' = true := fun u hu => (List.mem_cons.1 hu).elim (fun e => by rw [e]; rfl) (fun h => by rw [List.mem_singleton.1 h]; rfl)
def S6 (x : i6) (i : Nat) (ps : List i6) : Option (List (List UInt8)) := if dA i ps.length then some (HC x i ps) else none
theorem HB {x : i6} {i : Nat} {ps : List i6} (h : dA i ps.length) : S6 x i ps = some (HC x i ps) := if_pos h
theorem HA {x : i6} {i : Nat} {ps : List i6} (h : ¬ dA i ps.length) : S6 x i ps = none := if_neg h
def KA (l : List Pr) : Int := if X0 l < l.length then (X0 l : Int) else -1
theorem BX {l : List Pr} (h : X0 l < l.length) : KA l = (X0 l : Int) := if_pos h
theorem BW {l : List Pr} (h : ¬ X0 l < l.length) : KA l = -1 := if_neg h
def PxLe (ps : List Px) : Prop := ∀ p ∈ ps, p.1.2.2.length ≤ 70368744177664 ∧ p.2.2.2.length ≤ 70368744177664
def I3 (z : Int) (xs : List Nat) (ls bs : List i6) : Option (List (List UInt8)) := if (sW z xs ls bs).2 = 0 then some (HR z xs ls bs) else none
theorem fZ {z : Int} {xs : List Nat} {ls bs : List i6} (h : (sW z xs ls bs).2 ≠ 0) : I3 z xs ls bs = none := if_neg h
theorem uA {gh : Nat} (hh : gh ≤ 32) {xs : List Nat} {ls bs : List i6} (hi : idxOk gh xs) (h2 : ls.length = xs.length) (h3 : bs.length = (l7 gh xs 0).length) : I3 (gh : Int) xs ls bs = some (S0 gh xs 0 ls bs) := by
 have h : (sW (gh : Int) xs ls bs).2 = 0 := by rw [cI hh, ziR hi h2 h3]
 rw [I3, if_pos h, HR, if_pos h]; rfl
end Go.E
namespace Go.Proofs.YtgdjcmehlhebdaaGreatDoor
open _root_.Go.Proofs.Tryz
open Go.E
set_option maxRecDepth 4000
theorem IV (i n : Nat) (hi : i < 18446744073709551616) (w0) : cR 192 #[uI i, iI n] w0 (.bool (decide (dA i n))) := by
 refine cQ (co 17 [.tmp 4] func192 ?_)
 refine gw ?_
 refine j0 rfl rfl (M0 (b := 32) rfl rfl) (fun h7 => gw ?_) (fun h7 => gw ?_)
 ·refine a9 (fR ?_)
  exact ⟨(dF (fun h => by have h1 : n ≤ 32 := h.1; omega)).symm, rfl⟩
 ·refine l5 (γ := Nat) (mr 8 7 [0, 5]) (fun k => [(5, iI k), (0, uI (i / 2 ^ k : Nat))]) (fun _ => _) (fun k => k ≤ n) (fun k => n - k) (0)
   (Nat.zero_le _) ⟨Out.refl _ _, (fm rfl (fm (by show uI i = uI (i / 2 ^ 0 : Nat); rw [Nat.pow_zero, Nat.div_one]) nb))⟩ sr ?_
  rintro k u hk
  refine gw ?_
  refine j0 rfl rfl (p9 rfl rfl) (fun h10 => gw ?_) (fun h10 => gw ?_)
  ·refine e6 (n8 (I2 (b := 2) rfl rfl ow (by have := Nat.div_le_self i (2 ^ k); simp only [H1]; omega)) (by rw [v8])) (gw ?_)
   exact ⟨k + 1, od, od, oz, sr⟩
  ·refine i7 (c8 ?_)
   have hke : k = n := by omega
   have hiff : i / 2 ^ k = 0 ↔ dA i n := by subst hke; exact ⟨fun h => ⟨Nat.le_of_not_lt h7, h⟩, fun h => h.2⟩
   refine gw ?_
   refine e6 (n8 (v' := .bool (decide (dA i n))) (z6 (a := i / 2 ^ k) (b := 0) rfl rfl) (by rw [decide_eq_decide.2 hiff])) (gw ?_)
   exact tR
theorem zjf (i n : Nat) (hi : i < 18446744073709551616) (h : dA i n) (w0) : cR 192 #[uI i, iI n] w0 (.bool true) := by
 have hr := IV i n hi w0
 rwa [decide_eq_true h] at hr
theorem zje (i n : Nat) (hi : i < 18446744073709551616) (h : ¬ dA i n) (w0) : cR 192 #[uI i, iI n] w0 (.bool false) := by
 have hr := IV i n hi w0
 rwa [decide_eq_false h] at hr
theorem zih (x : i6) (i : Nat) (A) (n c : Nat) (ps : List i6) (hn : ps.length = n) (hi : i < 18446744073709551616) (hf : dA i n) (w0) (hR : Ro w0 [] (SlA A (m9 ps))) (hT : Tabs 3 1 w0 []) : cR 170 #[hv x, uI i, sL A n c] w0 (.tuple #[hv (zja x i ps), .nilIface]) := by
 refine cQ (co 57 [.cell 6 49, .tmp 7] func170 ?_)
 have hf1 := hf.1
 refine gw ?_
 intro b3
 refine gw ?_
 intro b6
 refine gw ?_
 refine e6 (Qt.dF (M0 (b := 32) rfl rfl) ow) (gw ?_)
 refine E8 rfl rfl rfl (G5 rfl rfl km) (E8 rfl rfl rfl (Qt.dF (C7 (b := 0) rfl rfl) (fun h => h hf.2)) (gw ?_))
 refine l5 (γ := Nat) (mr 28 28 (mr 7 7 [])) (fun k => [(28, iI k)]) (fun k => [Blk b6 49 (List.replicate 32 (.int .u8 0)), Blk b3 49 (L8 (w9 x i ps k))]) (fun k => k ≤ n) (fun k => n - k) (0)
  (Nat.zero_le _) oa sr ?_
 rintro k u hk
 refine gw ?_
 refine j0 rfl rfl (p9 rfl rfl) (fun h29 => gw ?_) (fun h29 => gw ?_)
 ·refine e6 (i5 uT cT rfl rfl ow (c9 hR) (by rw [m7]; omega)) (e6 (a8 rfl (E4 (c9 hR) k rT ce49 ow rfl)) (gw ?_))
  intro b9
  refine gw ?_
  refine j9 rfl (W9 (ps.getD k e7) rfl (gw ?_))
  refine dr ([4, 5], [2, 3]) (gw ?_)
  refine KD (k1 := 2) (k2 := 3) sr rfl rfl kr kr kr kr kr kr rfl rfl rfl ze49 ze49 (fun b10 b11 => (F7 4 rfl (HY (w9 x i ps k) rfl (G0 ?_))))
  refine F7 5 rfl (W9 (ps.getD k e7) rfl (G0 ?_))
  refine p7 (gw ?_)
  refine e6 (G5 rfl rfl km) (e6 (n8 (fN (b := 1) rfl rfl (by have := Nat.div_le_self i (2 ^ k); simp only [H1]; omega) km) (by rw [Nat.and_one_is_mod])) (j0 rfl rfl (z6 (b := 1) rfl rfl) (fun h39 => gw ?_) (fun h39 => gw ?_)))
  ·refine D1 ([2, 3], []) mixed (sd (sd (sk (sk (sk I8))))) (gw ?_)
   refine F7 2 rfl (F9 (v := hv (ps.getD k e7)) rfl rfl (o5 ce49) (N7 _) (by rw [v9, v9]) (G0 ?_))
   refine F7 3 rfl (j5 (v := hv (w9 x i ps k)) rfl rfl (o5 ce49) (N7 _) (by rw [v9, v9]) (G0 ?_))
   refine p7 (gw ?_)
   refine u7 en (fun w hw => (by rw [qB h39]; exact vV (k + 1) ow ow _ _ w (hT.at hw) : cR 117 #[iI ↑(k + 1), hv (ps.getD k e7), hv (w9 x i ps k)] w (.tuple #[hv (w9 x i ps (k + 1)), .nilIface]))) (gw ?_)
   intro b12
   refine j9 rfl (W9 (w9 x i ps (k + 1)) rfl (gw ?_))
   refine j9 rfl (cY (v := hv (w9 x i ps (k + 1))) rfl rfl (o5 ce49) (N7 _) (by rw [v9, l6]) (gw ?_))
   exact ⟨k + 1, od, od, oz, sp⟩
  ·refine u7 en (fun w hw => (by rw [mW h39]; exact vV (k + 1) ow ow _ _ w (hT.at hw) : cR 117 #[iI ↑(k + 1), hv (w9 x i ps k), hv (ps.getD k e7)] w (.tuple #[hv (w9 x i ps (k + 1)), .nilIface]))) (gw ?_)
   intro b12
   refine j9 rfl (W9 (w9 x i ps (k + 1)) rfl (gw ?_))
   refine j9 rfl (cY (v := hv (w9 x i ps (k + 1))) rfl rfl (o5 ce49) (N7 _) (by rw [v9, l6]) (gw ?_))
   exact ⟨k + 1, od, od, oz, sp⟩
 ·refine i7 (c8 (c7 ?_))
  obtain rfl : k = n := by omega
  refine gw ?_
  refine j9 rfl (W9 _ rfl (gw ?_))
  refine a9 (finQ.ret (j7 rfl (i4 w5 rT (o5 ce49)) rv) sn ?_)
  subst hn
  exact rr
theorem zgJ (x : i6) (i : Nat) (A) (n c : Nat) (hi : i < 18446744073709551616) (hf : ¬ dA i n) (w0) : cR 170 #[hv x, uI i, sL A n c] w0 (.tuple #[hv e7, .iface 73 (iI 1)]) := by
 refine cQ (co 57 [.cell 6 49, .tmp 7] func170 ?_)
 refine gw ?_
 intro b3
 refine gw ?_
 intro b6
 refine gw ?_
 refine j0 rfl rfl (M0 (b := 32) rfl rfl) (fun h16 => gw ?_) (fun h16 => gw ?_)
 ·refine e6 (C8 (v := hv e7) rfl (fun _ => by kernel_rfl)) (gw ?_)
  refine j9 rfl (W9 (e7) rfl (gw ?_))
  refine a9 (finQ.ret (j7 rfl (i4 w5 rT (o5 ce49)) rv) sn ?_)
  exact rr
 ·refine E8 rfl rfl rfl (G5 rfl rfl km) (E8 rfl rfl rfl (Qt.dT (C7 (b := 0) rfl rfl) (fun h0 => hf ⟨Nat.le_of_not_lt h16, h0⟩)) (gw ?_))
  refine e6 (C8 (v := hv e7) rfl (fun _ => by kernel_rfl)) (gw ?_)
  refine j9 rfl (W9 (e7) rfl (gw ?_))
  refine a9 (finQ.ret (j7 rfl (i4 w5 rT (o5 ce49)) rv) sn ?_)
  exact rr
theorem build66 (A : y8) (n c : Nat) (B : y8) (m d : Nat) (w : World) : (Instr.build 114 #[(0, .slice A n c), (1, .slice B m d)]).run prog w = .ok (.agg #[.slice A n c, .slice B m d]) w := by kernel_rfl
theorem build77 (A : y8) (n c : Nat) (B : y8) (m d : Nat) (w : World) : (Instr.build 115 #[(0, .slice A n c), (1, .slice B m d)]).run prog w = .ok (.agg #[.slice A n c, .slice B m d]) w := by kernel_rfl
def X8 (X : Option (List (List UInt8))) (v : Value) (L : List Assn) : Prop := match X with
 | none => ∃ k : Int, v = .tuple #[.slice none 0 0, .iface 73 (.int .i64 k)] ∧ L = []
 | some xs => ∃ (O : y8) (d : Nat) (tt : List Tx), v = .tuple #[.slice O tt.length d, .nilIface] ∧ L = [OwnA 112 1 O tt.length d (tt.flatMap aI), C1 (tt.map u3)] ∧ tt.map (fun t => t.2.2) = xs ∧ tt.length ≤ 16384
def tN (X : Option (List (List UInt8))) (v : Value) (L : List Assn) : Prop := match X with
 | none => v = .tuple #[.slice none 0 0, .bool false] ∧ L = []
 | some xs => ∃ (O : y8) (d : Nat) (tt : List Tx), v = .tuple #[.slice O tt.length d, .bool true] ∧ L = [OwnA 112 1 O tt.length d (tt.flatMap aI), C1 (tt.map u3)] ∧ tt.map (fun t => t.2.2) = xs ∧ tt.length ≤ 16384
def fF (T : TypeId) (E : List Pr) (v : Value) (L : List Assn) : Prop := ∃ (O : y8) (d : Nat) (ps : List Px) (Ls : List Assn), v = .slice O ps.length d ∧ L = [OwnA T 2 O ps.length d (ps.flatMap aZ), C1 Ls] ∧ ps.map N9 = E ∧ ps.length ≤ 16384 ∧ ∀ p ∈ ps, u3 p.1 ∈ Ls ∧ u3 p.2 ∈ Ls
theorem wO (cs ds : List Value) (hc : cs.length = 33) (hd : ds.length = 33) (hc1 : cs.all (·.oneCell') = true) (hd1 : ds.all (·.oneCell') = true) (w0) :
  cP 156 #[.bool true, .agg cs.toArray, .agg ds.toArray] w0 fun v L => v = .agg cs.toArray ∧ L = [] := by
 refine co 10 [.cell 6 198] func156 ?_
 refine gw ?_
 intro b4
 refine gw ?_
 intro b5
 refine gw ?_
 intro b6
 refine gw ?_
 refine e6 (a8 rfl (i4 (vs := cs) aH rT (by rw [hc]; exact ce198))) (j9 rfl (j5 (v := .agg cs.toArray) rfl rfl (by rw [o6, hc]; exact ce198) (hc1) (by rw [o6, hc]; rfl) (gw ?_)))
 exact a9 (finQ.ret (j7 rfl (i4 w5 rT (by rw [o6, hc]; exact ce198)) n9) sn (rr))
theorem sP (cs ds : List Value) (hc : cs.length = 33) (hd : ds.length = 33) (hc1 : cs.all (·.oneCell') = true) (hd1 : ds.all (·.oneCell') = true) (w0) :
  cP 156 #[.bool false, .agg cs.toArray, .agg ds.toArray] w0 fun v L => v = .agg ds.toArray ∧ L = [] := by
 refine co 10 [.cell 6 198] func156 ?_
 refine gw ?_
 intro b4
 refine gw ?_
 intro b5
 refine gw ?_
 intro b6
 refine gw ?_
 refine e6 (a8 rfl (i4 (vs := ds) N3 rT (by rw [hd]; exact ce198))) (j9 rfl (j5 (v := .agg ds.toArray) rfl rfl (by rw [o6, hd]; exact ce198) (hd1) (by rw [o6, hd]; rfl) (gw ?_)))
 exact a9 (finQ.ret (j7 rfl (i4 w5 rT (by rw [o6, hd]; exact ce198)) n9) sn (rr))
theorem fU (cb : Nat) (O) (tt : List Tx) (d l : Nat) (h1 : 1 ≤ l) (h2 : l ≤ 32) (a b : i6) (hn : tt.length < 16384) (w0) (h0 : Sat w0 [Blk cb 229 [sL O (tt).length d], OwnA 112 1 O (tt).length d ((tt).flatMap aI), C1 ((tt).map u3)]) (hT : Tabs 3 1 w0 (A8 [Blk cb 229 [sL O (tt).length d], OwnA 112 1 O (tt).length d ((tt).flatMap aI), C1 ((tt).map u3)])) :
  Calls prog 183 #[pZ cb, iI l, hv a, hv b] w0 (D0 w0 (A8 [Blk cb 229 [sL O (tt).length d], OwnA 112 1 O (tt).length d ((tt).flatMap aI), C1 ((tt).map u3)]) fun v L => ∃ O' d' t, v = .tuple #[hv (F8 l a b), .nilIface] ∧ L = [Blk cb 229 [sL O' (tt ++ [t]).length d'], OwnA 112 1 O' (tt ++ [t]).length d' ((tt ++ [t]).flatMap aI), C1 ((tt ++ [t]).map u3)] ∧ t.2.2 = x5 l a b) := by
 refine gW (L := [Blk cb 229 [sL O (tt).length d], OwnA 112 1 O (tt).length d ((tt).flatMap aI), C1 ((tt).map u3)]) 35 [.cell 8 49, .tmp 9] func183 h0 ?_
 refine gw ?_
 intro b6
 refine gw ?_
 intro b7
 refine gw ?_
 intro b8
 refine gw ?_
 refine z9 en (fun w hw => gM l h1 h2 a b w) ?_
 rintro v L' ⟨Ot, dt, rfl, rfl⟩
 refine T4 (pc pm5) (gw ?_)
 refine z7 (m5 (v := sL Ot (x5 l a b).length dt) uT elem112 dc rfl rfl (fun g29 => (z7 (zgp (news := [sL Ot (x5 l a b).length dt]) uT elem112 rfl rfl (j8 (cs := [sL Ot (x5 l a b).length dt]) w5) rfl (by intro u hu; rw [List.mem_singleton.1 hu]; rfl) kx ow (fun O3 d3 => (gw ?_))))))
 refine j9 rfl (zbQ rfl cw cT rfl rfl (Nat.le_of_ble_eq_true rfl) (gw ?_))
 refine u7 en (fun w hw => cQ (fC Ot dt (x5 l a b) w (Rd.own (e := 5) (sz := 1) (Rd.many (A := OwnA 5 1 Ot (x5 l a b).length dt (e9 (x5 l a b))) (Rd.at 1 rfl) (List.mem_append.2 (.inr (List.mem_singleton.2 rfl)))) w hw) (by rw [L9]; decide) (hT.at hw))) ?_
 refine j9 rfl (K9 (v := hv (_)) rfl rfl (o5 ce49) (N7 _) (v9 _) (gw ?_))
 refine a9 (finQ.ret (j7 rfl (i4 aH rT (o5 ce49)) rv) (sx [5, 5, 1]) ?_)
 refine ⟨O3, d3, (Ot, dt, x5 l a b), rfl, ?_, rfl⟩
 simp only [List.length_append, List.flatMap_append, List.map_append]
 rfl
theorem zbt (x : i6) (i : Nat) (A) (c : Nat) (ps : List i6) (hi : i < 18446744073709551616) (hf : ¬ dA i ps.length) (w0) :
  cP 155 #[uI i, .agg (L8 x ++ [sL A ps.length c]).toArray] w0 fun v L => X8 none v L := by
 refine co 67 [.tmp 4, .tmp 5] func155 ?_
 refine gw ?_
 intro b3
 refine gw ?_
 refine e6 (a8 rfl (Q0 (vs := L8 x) w5 rT (by rw [l6]; exact ce49) (vC x _))) (gw ?_)
 refine e6 (a8 rfl (i9 (v := sL A ps.length c) w5 oT (vD x _))) (u7 en (fun w hw => zgJ x i A ps.length c hi hf w) (gw ?_))
 intro b6
 refine j9 rfl (W9 _ rfl (gw ?_))
 refine a9 (fR ?_)
 exact ⟨1, rfl, rfl⟩
theorem zcK (x : i6) (i : Nat) (A) (c : Nat) (ps : List i6) (hi : i < 18446744073709551616) (hf : dA i ps.length) (w0) (hR : Ro w0 [] (SlA A (m9 ps))) (hT : Tabs 3 1 w0 []) :
  cP 155 #[uI i, .agg (L8 x ++ [sL A ps.length c]).toArray] w0 fun v L => X8 (some (HC x i ps)) v L := by
 refine co 67 [.tmp 4, .tmp 5] func155 ?_
 have hf1 := hf.1
 refine gw ?_
 intro b3
 refine gw ?_
 refine e6 (a8 rfl (Q0 (vs := L8 x) w5 rT (by rw [l6]; exact ce49) (vC x _))) (gw ?_)
 refine e6 (a8 rfl (i9 (v := sL A ps.length c) w5 oT (vD x _))) (u7 en (fun w hw => zih x i A ps.length c ps rfl hi hf w (Rd.ro hR w hw) (hT.at hw)) (gw ?_))
 intro b6
 refine j9 rfl (W9 _ rfl (gw ?_))
 refine e6 (C8 (v := .agg #[sL none 0 0]) rfl (fun _ => by kernel_rfl)) (gw ?_)
 intro b29
 refine gw ?_
 refine e6 (a8 rfl (Q0 (vs := L8 x) aH rT (by rw [l6]; exact ce49) (vC x _))) (gw ?_)
 intro b9
 refine j9 rfl (W9 (x) rfl (gw ?_))
 refine e6 (a8 rfl (i9 (v := sL A ps.length c) tV oT (vD x _))) (gw ?_)
 refine m6 112 1 (x3 ?_)
 refine l5 (γ := Nat × y8 × List Tx × Nat) (mr 35 28 (mr 10 6 [4, 5])) (fun g => [(35, iI g.1)]) (fun g => [Blk b29 229 [sL g.2.1 g.2.2.1.length g.2.2.2], OwnA 112 1 g.2.1 (g.2.2.1).length g.2.2.2 ((g.2.2.1).flatMap aI), C1 ((g.2.2.1).map u3), Blk b9 49 (L8 (w9 x i ps g.1)), Blk b3 198 (vl (.agg (L8 x ++ [sL A ps.length c]).toArray))]) (fun g => g.1 ≤ ps.length ∧ g.2.2.1.map (fun t => t.2.2) = (List.range g.1).map (mN x i ps)) (fun g => ps.length - g.1) ((0, none, [], 0))
  ⟨Nat.zero_le _, rfl⟩ oa sp ?_
 rintro ⟨k, O, tt, d⟩ u ⟨hk, htt⟩
 dsimp only at hk htt
 have htl : tt.length = k := by have := congrArg List.length htt; simpa using this
 show TC _ _ _ (puts [(35, iI k)] (scr _ u _)) [Blk b29 229 [sL O tt.length d], OwnA 112 1 O (tt).length d ((tt).flatMap aI), C1 ((tt).map u3), Blk b9 49 (L8 (w9 x i ps k)), Blk b3 198 (vl (.agg (L8 x ++ [sL A ps.length c]).toArray))]
 refine gw ?_
 refine j0 rfl rfl (p9 rfl rfl) (fun h36 => gw ?_) (fun h36 => gw ?_)
 ·refine e6 (i5 uT cT rfl rfl ow (c9 hR) (by rw [m7]; omega)) (e6 (a8 rfl (E4 (c9 hR) k rT ce49 ow rfl)) (gw ?_))
  intro b11
  refine gw ?_
  refine j9 rfl (W9 (ps.getD k e7) rfl (gw ?_))
  refine dr ([4, 5], [2, 3]) (gw ?_)
  refine KD (k1 := 2) (k2 := 3) sr rfl rfl kr kr kr kr kr kr rfl rfl rfl ze49 ze49 (fun b12 b13 => (F7 4 rfl (HY (w9 x i ps k) rfl (G0 ?_))))
  refine F7 5 rfl (W9 (ps.getD k e7) rfl (G0 ?_))
  refine p7 (gw ?_)
  refine e6 (G5 rfl rfl km) (e6 (n8 (fN (b := 1) rfl rfl (by have := Nat.div_le_self i (2 ^ k); simp only [H1]; omega) km) (by rw [Nat.and_one_is_mod])) (j0 rfl rfl (z6 (b := 1) rfl rfl) (fun h46 => gw ?_) (fun h46 => gw ?_)))
  ·refine D1 ([2, 3], []) mixed (sd (sd (sk (sk (sk (sk (sk (sk I8)))))))) (gw ?_)
   refine F7 2 rfl (F9 (v := hv (ps.getD k e7)) rfl rfl (o5 ce49) (N7 _) (by rw [v9, v9]) (G0 ?_))
   refine F7 3 rfl (j5 (v := hv (w9 x i ps k)) rfl rfl (o5 ce49) (N7 _) (by rw [v9, v9]) (G0 ?_))
   refine p7 (gw ?_)
   refine z7 (l8 (Pre := [Blk b29 229 [sL O tt.length d], OwnA 112 1 O (tt).length d ((tt).flatMap aI), C1 ((tt).map u3)]) (R := _) en rfl (pm3.trans (pc (pm3.trans (pc pm3)))) (fun w hw => fU b29 O tt d (k + 1) ow ow (ps.getD k e7) (w9 x i ps k) ow w hw.sat.left (hT.pre hw)) ?_)
   rintro v L' ⟨O', d', t, rfl, rfl, et⟩
   have hst : F8 (k + 1) (ps.getD k e7) (w9 x i ps k) = w9 x i ps (k + 1) := (qB h46).symm
   have hx2 : x5 (k + 1) (ps.getD k e7) (w9 x i ps k) = mN x i ps k := by unfold mN; rw [if_pos h46]
   rw [hst]
   refine gw ?_
   intro b14
   refine j9 rfl (W9 (w9 x i ps (k + 1)) rfl (gw ?_))
   refine j9 rfl (fM (v := hv (w9 x i ps (k + 1))) rfl rfl (o5 ce49) (N7 _) (by rw [v9, l6]) (gw ?_))
   refine ⟨(k + 1, O', tt ++ [t], d'), ?_, od, oz, sp⟩
   exact ⟨by show _ ≤ _; dsimp only; omega, by dsimp only; rw [List.map_append, htt, List.range_succ, List.map_append, List.map_singleton, List.map_singleton, et, hx2]⟩
  ·refine z7 (l8 (Pre := [Blk b29 229 [sL O tt.length d], OwnA 112 1 O (tt).length d ((tt).flatMap aI), C1 ((tt).map u3)]) (R := _) en rfl (pm3.trans (pc (pm3.trans (pc pm3)))) (fun w hw => fU b29 O tt d (k + 1) ow ow (w9 x i ps k) (ps.getD k e7) ow w hw.sat.left (hT.pre hw)) ?_)
   rintro v L' ⟨O', d', t, rfl, rfl, et⟩
   have hst : F8 (k + 1) (w9 x i ps k) (ps.getD k e7) = w9 x i ps (k + 1) := (mW h46).symm
   have hx2 : x5 (k + 1) (w9 x i ps k) (ps.getD k e7) = mN x i ps k := by unfold mN; rw [if_neg h46]
   rw [hst]
   refine gw ?_
   intro b14
   refine j9 rfl (W9 (w9 x i ps (k + 1)) rfl (gw ?_))
   refine j9 rfl (fM (v := hv (w9 x i ps (k + 1))) rfl rfl (o5 ce49) (N7 _) (by rw [v9, l6]) (gw ?_))
   refine ⟨(k + 1, O', tt ++ [t], d'), ?_, od, oz, sp⟩
   exact ⟨by show _ ≤ _; dsimp only; omega, by dsimp only; rw [List.map_append, htt, List.range_succ, List.map_append, List.map_singleton, List.map_singleton, et, hx2]⟩
 ·refine i7 (c8 (gw ?_))
  refine a9 (finQ.ret rv (sx [1, 1]) ?_)
  obtain rfl : k = ps.length := by omega
  exact ⟨O, d, tt, rfl, rfl, htt, by omega⟩
end Go.Proofs.YtgdjcmehlhebdaaGreatDoor
namespace Go.E
variable {C : Ctx} {env : Env} {L : List Assn}
variable {dst : Option Tmp} {ty ty2 T : TypeId} {po : String} {af : Array Edge} {gj : Option (Nat × Bool)} {x y : Operand} {a b : Bool}
theorem zi5 (ht : C.P.underlying T = some .bool) (hx : env.ev x = .bool a) (hy : env.ev y = .bool b) : Qt C L ⟨dst, .binOp .neq T x y ty2, ty, po, af, gj⟩ env (.bool (a != b)) := fun w _ => by
 have h : (Op.equal T (.bool a) (.bool b)).run C.P w = .ok (a == b) w := run_equalIn_bool' w 9999 T a b ht
 simp [execOp, hx, hy, eqGuard, binOp, h]
 cases a <;> cases b <;> rfl
end Go.E
namespace Go.E
section
variable {C : Ctx} {env : Env} {L : List Assn} {dst : Option Tmp} {ty : TypeId} {po : String} {af : Array Edge} {gj : Option (Nat × Bool)} {x y : Operand} {T e : TypeId} {K' : Value → List Assn → Prop}
theorem pU {sz bytes n : Nat} {z : Value} {cs : List Value} {kl kc : IntKind} (ht : C.P.underlying T = some (.slice e)) (he : S3 C.P e sz bytes) (hz : gI C.P e = some z) (hx : env.ev x = .int kl (n : Int)) (hy : env.ev y = .int kc (n : Int))
  (hn : n * sz ≤ 16777216) (hb : (bytes : Int) * (n : Int) ≤ 281474976710656) (hm : n ≤ 65536) (hc : madeCells z.cells (n * sz) = cs.toArray) (h : ∀ b, K' (.slice (some ⟨b, 0, none⟩) n n) (Blk b e cs :: L)) : OpV C ⟨dst, .makeSlice T x y, ty, po, af, gj⟩ env L K' := fun w hw => by
 obtain ⟨i, zv, hi, hzv, hsz, hby, m9, hpos⟩ := he
 obtain rfl : zv = z := by
  have : gI C.P e = some zv := by simp [gI, hi, hzv]
  rw [this] at hz; injection hz
 have hrun : (execOp env.ev ⟨dst, .makeSlice T x y, ty, po, af, gj⟩).run C.P w = .ok (.value (.slice (some ⟨w.heap.size, 0, none⟩) n n)) (w.alloc (.cells cs.toArray e)) := by
  have k := run_makeSlice (P := C.P) w T e i zv ht hi hzv kl kc (n : Int) (n : Int) ow ow (by rw [hsz]; simpa using hn) (by rw [hby]; exact hb) ow
  simp only [Int.toNat_natCast] at k
  rw [hsz, hc] at k
  simp [execOp, hx, hy, k]
 rw [hrun]
 refine ⟨_, hw.alloc _, ?_⟩
 exact h w.heap.size
end
set_option linter.unusedSectionVars false
variable {C : Ctx} {env : Env} {L : List Assn} {e : TypeId}
variable {dst : Option Tmp} {ty : TypeId} {po : String} {af : Array Edge} {gj : Option (Nat × Bool)} {x y z : Operand} {T : TypeId} {K' : Value → List Assn → Prop}
theorem CS {B0 B1 B2 B3 B4 B5 B6 B7 : Assn} {R : List Assn} {A B : y8} {n c m c' sz bytes : Nat} {xs news : List Value} (ht : C.P.underlying T = some (.slice e)) (he : S3 C.P e sz bytes)
  (hx : env.ev x = .slice A n c) (hy : env.ev y = .slice B m c') (hs : Has C (B0 :: B1 :: B2 :: B3 :: B4 :: B5 :: B6 :: B7 :: OwnA e sz A n c xs :: R) (SlA B news)) (hl : news.length = m * sz) (h1 : ∀ u ∈ news, u.oneCell' = true)
  (h63 : n + m ≤ maxLen) (hby : (n + m) * bytes ≤ 140737488355328)
  (h : ∀ A' c', K' (.slice A' (n + m) c') (B0 :: B1 :: B2 :: B3 :: B4 :: B5 :: B6 :: B7 :: OwnA e sz A' (n + m) c' (xs ++ news) :: R)) :
  OpV C ⟨dst, .call { callee := .builtin .append, args := #[x, y], argTypes := #[T, T] }, ty, po, af, gj⟩ env (B0 :: B1 :: B2 :: B3 :: B4 :: B5 :: B6 :: B7 :: OwnA e sz A n c xs :: R) K' := V6 (L1 := [B0, B1, B2, B3, B4, B5, B6, B7]) ht he hx hy hs hl h1 h63 hby h
theorem jY {dst : Option Tmp} {ty : TypeId} {po : String} {af : Array Edge} {gj : Option (Nat × Bool)} {x y : Operand} {v : Value} {T T' : TypeId} {K : Value → List Assn → Prop} {B0 B1 B2 B3 B4 B5 B6 B7 : Assn} {R : List Assn} {b : Nat} {cs : List Value}
  (hx : env.ev x = .pointer (some ⟨b, 0, none⟩)) (hy : env.ev y = v) (hs : (C.P.info? T).map (·.size) = some (vl v).length) (h1 : (vl v).all (·.oneCell') = true) (hl : (vl v).length = cs.length)
  (h : K undef (B0 :: B1 :: B2 :: B3 :: B4 :: B5 :: B6 :: B7 :: Blk b T' (vl v) :: R)) : OpV C ⟨dst, .store T x y, ty, po, af, gj⟩ env (B0 :: B1 :: B2 :: B3 :: B4 :: B5 :: B6 :: B7 :: Blk b T' cs :: R) K :=
 E7 (L1 := [B0, B1, B2, B3, B4, B5, B6, B7]) hx hy hs h1 ow (cW hl) h
theorem zbV {dst : Option Tmp} {ty : TypeId} {po : String} {af : Array Edge} {gj : Option (Nat × Bool)} {x y : Operand} {v : Value} {T T' : TypeId} {K : Value → List Assn → Prop} {B0 B1 B2 B3 B4 B5 B6 B7 B8 : Assn} {R : List Assn} {b : Nat} {cs : List Value}
  (hx : env.ev x = .pointer (some ⟨b, 0, none⟩)) (hy : env.ev y = v) (hs : (C.P.info? T).map (·.size) = some (vl v).length) (h1 : (vl v).all (·.oneCell') = true) (hl : (vl v).length = cs.length)
  (h : K undef (B0 :: B1 :: B2 :: B3 :: B4 :: B5 :: B6 :: B7 :: B8 :: Blk b T' (vl v) :: R)) : OpV C ⟨dst, .store T x y, ty, po, af, gj⟩ env (B0 :: B1 :: B2 :: B3 :: B4 :: B5 :: B6 :: B7 :: B8 :: Blk b T' cs :: R) K :=
 E7 (L1 := [B0, B1, B2, B3, B4, B5, B6, B7, B8]) hx hy hs h1 ow (cW hl) h
end Go.E
