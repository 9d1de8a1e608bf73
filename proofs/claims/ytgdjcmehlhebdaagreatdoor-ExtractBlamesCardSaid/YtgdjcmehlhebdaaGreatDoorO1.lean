/- The program logic, fifteenth part: bytes as a string, strings compared, structs of two num -/
import Derived.Test.YtgdjcmehlhebdaaGreatDoorY5
import Derived.Laws.IdiomStrings
import Derived.Laws.MakeOwn
set_option maxHeartbeats 25600000
namespace Go.E
section
variable {C : Ctx} {env : Env} {L : List Assn} {dst : Option Tmp} {ty ty2 : TypeId} {pos : String} {after : Array Edge} {guard : Option (Nat × Bool)} {x y : Operand} {T e src dstT : TypeId}
theorem zgC {bs : List UInt8} {j : Nat} (hj : j < bs.length) : (zad bs)[j]? = some (.int .u8 (bs[j].toNat : Int)) := by simp [zad, hj]
theorem Qt.bytesStr {A : OAd} {n c : Nat} {bs : List UInt8} (hs : C.P.underlying src = some (.slice e)) (he : C.P.underlying e = some (.int .u8)) (hd : C.P.underlying dstT = some .string) (hx : env.ev x = .slice A n c) (hn : n = bs.length) (hpos : 0 < bs.length) (h : Has C L (SlA A (zad bs))) :
  Qt C L ⟨dst, .convert src dstT x, ty, pos, after, guard⟩ env (.string ⟨bs.toArray⟩) := fun w hw => by
 subst hn
 obtain ⟨a, rfl, _⟩ := h w hw 0 _ (zgC hpos)
 have k := run_convert_bytes_back (P := C.P) w src dstT e a c bs hs he hd fun j hj => by
  obtain ⟨a', e', hu⟩ := h w hw j _ (zgC hj)
  injection e' with e'; subst e'; exact hu
 simp [execOp, hx, k]
end
variable {C : Ctx} {Q : EQ} {env : Env} {ops : Array Oper}
theorem St.many_two {w0 w : World} {M : List Nat} {L1 L2 R : List Assn} (h : St w0 M (Many L1 :: Many L2 :: R) w) : St w0 M (Many (L1 ++ L2) :: R) w := by
 refine St.many.2 ?_
 have h1 := St.many.1 h
 have h2 : St w0 M (Many L2 :: (L1 ++ R)) w := h1.perm List.perm_middle
 have h3 := St.many.1 h2
 refine h3.perm ?_
 rw [← List.append_assoc]
 exact List.Perm.append_right _ List.perm_append_comm
theorem TL.manyTwo {L1 L2 R L0 : List Assn} {l : List Oper} (s : L0.Perm (Many L1 :: Many L2 :: R)) (h : TL C ops Q l env (Many (L1 ++ L2) :: R)) : TL C ops Q l env L0 := fun a w ha hw => h a w ha ((hw.perm s).many_two)
theorem zdo {α : Type} {s : List α} {k : Nat} (d : α) (h : k < s.length) : s.getD k d = s[k] := by simp [List.getD, h]
theorem zhP {κ : Type} [DecidableEq κ] {a : κ} (d : κ) : ∀ {s : List κ} {bs : List H32} {k : Nat}, k < s.length → s.length = bs.length → (∀ j, j < k → s.getD j d ≠ a) → s.getD k d = a → look a (s.zip bs) = some (bs.getD k zac)
 | [], _, _, hk, _, _, _ => absurd hk (Nat.not_lt_zero _)
 | _ :: _, [], _, _, hl, _, _ => by cases hl
 | x :: s, b :: bs, 0, _, _, _, h2 => by
  rw [List.zip_cons_cons, za5, if_pos (by simpa using h2.symm)]; simp
 | x :: s, b :: bs, k + 1, hk, hl, h1, h2 => by
  rw [List.zip_cons_cons, za5, if_neg (fun e => h1 0 (Nat.succ_pos _) (by simpa using e.symm))]
  have := zhP d (s := s) (bs := bs) (k := k) (a := a) (by simpa using hk) (by simpa using hl) (fun j hj => by have := h1 (j + 1) ow; simpa using this) (by simpa using h2)
  simpa using this
variable {zs : List ((Nat × Nat) × H32)} {zl : List (Nat × H32)} {l p : Nat}
theorem zgD : ∀ (l : Nat) (xs : List Nat) (p : Nat) (ls bs : List H32), ∀ t ∈ zbo l xs p ls bs, t.length = 66
 | 0, xs, p, ls, bs, t, ht => by cases ht
 | l + 1, xs, p, ls, bs, t, ht => by
  rw [zbo] at ht
  split at ht
  ·cases ht
  ·rcases List.mem_append.1 ht with h | h
   ·rcases List.mem_append.1 h with h | h
    ·exact zgD l _ _ _ _ t h
    ·exact zgD l _ _ _ _ t h
   ·rw [List.mem_singleton.1 h]; exact zba ..
end Go.E
namespace Go.Proofs.YtgdjcmehlhebdaaGreatDoor
open _root_.Go.Proofs.Tryz
open Go.E
set_option maxRecDepth 4000
theorem zov (z : Int) (k : Nat) (A : OAd) (c : Nat) (xs : List Nat) (B : OAd) (b : Nat) (ls : List H32) (Z : OAd) (e : Nat) (bs : List H32) (hce : ∀ w, Ro w [] (SlA A (u64s xs)) → Ro w [] (SlA B (hcs ls)) → Ro w [] (SlA Z (hcs bs)) → Calls prog 188 #[.int .i64 z, .slice A xs.length c, .slice B ls.length b, .slice Z bs.length e] w (Ret w (.tuple #[hv zac, .slice none 0 0, .iface 73 (.int .i64 (k : Int))]))) (w0 : World) (hR : Ro w0 [] (SlA A (u64s xs))) (hB : Ro w0 [] (SlA B (hcs ls))) (hD : Ro w0 [] (SlA Z (hcs bs))) :
  Calls prog 144 #[.int .i64 z, .slice A xs.length c, .slice B ls.length b, .slice Z bs.length e] w0 (Post w0 [] fun v L => v = .tuple #[.slice none 0 0, .iface 73 (.int .i64 (k : Int))] ∧ L = []) := by
 refine co 24 [.tmp 8, .tmp 9] func144 ?_
 refine gw ?_
 refine S.c0 J188 (fun w hw => hce w (Rd.ro hR w hw) (Rd.ro hB w hw) (Rd.ro hD w hw)) (gw ?_)
 intro b10
 refine S.opN rfl (OpV.storeV0 (v := hv (_)) rfl rfl (zab ce49) (zai _) (zaf _) ?_)
 refine gw ?_
 refine TC.ret (fR ?_)
 exact ⟨rfl, rfl⟩
theorem zow (height : Nat) (hh : height ≤ 32) (A : OAd) (c : Nat) (xs : List Nat) (hc : xs.length ≤ c) (B : OAd) (b : Nat) (ls : List H32) (Z : OAd) (e : Nat) (bs : List H32) (hi : idxOk height xs) (h2 : ls.length = xs.length) (h3 : bs.length = (zaj height xs 0).length) (hb : ls.length ≤ b) (hbs : bs.length ≤ e) (w0 : World) (hlow : ∀ x ∈ xs, x < 18446744073709551616) (hR : Ro w0 [] (SlA A (u64s xs))) (hB : Ro w0 [] (SlA B (hcs ls))) (hD : Ro w0 [] (SlA Z (hcs bs))) (hT : Tabs 3 1 w0 []) :
  Calls prog 144 #[.int .i64 (height : Int), .slice A xs.length c, .slice B ls.length b, .slice Z bs.length e] w0 (Post w0 [] fun v L => ∃ (O : OAd) (d : Nat) (tt : List Tx), v = .tuple #[.slice O tt.length d, .nilIface] ∧ L = [OwnA 112 1 O tt.length d (tt.flatMap txL), Many (tt.map zaN)] ∧ tt.map (fun t => t.2.2) = zbo height xs 0 ls bs) := by
 refine co 24 [.tmp 8, .tmp 9] func144 ?_
 refine gw ?_
 refine S.cn J188 (fun w hw => zhO height hh A c xs hc B b ls Z e bs hi h2 h3 hb hbs w hlow (Rd.ro hR w hw) (Rd.ro hB w hw) (Rd.ro hD w hw) (hT.at hw)) ?_
 rintro v L' ⟨O, d, tt, rfl, rfl, ett⟩
 refine gw ?_
 intro b10
 refine S.opN rfl (OpV.storeV0 (v := hv (_)) rfl rfl (zab ce49) (zai _) (zaf _) ?_)
 refine gw ?_
 refine TC.ret (finQ.ret rv (Sub.trans (sk (sk (sd sn0))) (Sub.trans (sk (Sub.trans (sk sr) (Sub.of_perm pm1))) (Sub.of_perm pm1))) ?_)
 exact ⟨O, d, tt, rfl, rfl, ett⟩
end Go.Proofs.YtgdjcmehlhebdaaGreatDoor
namespace Go.E
section
variable {C : Ctx} {env : Env} {L : List Assn} {dst : Option Tmp} {ty ty2 : TypeId} {pos : String} {after : Array Edge} {guard : Option (Nat × Bool)} {x y : Operand} {T e src dstT : TypeId}
theorem Qt.bytesStrA {A : OAd} {n c : Nat} {bs : List UInt8} (hs : C.P.underlying src = some (.slice e)) (he : C.P.underlying e = some (.int .u8)) (hd : C.P.underlying dstT = some .string) (hx : env.ev x = .slice A n c) (hn : n = bs.length) (h : Has C L (SlA A (zad bs))) :
  Qt C L ⟨dst, .convert src dstT x, ty, pos, after, guard⟩ env (.string ⟨bs.toArray⟩) := fun w hw => by
 rcases Nat.eq_zero_or_pos bs.length with h0 | h0
 ·obtain rfl : bs = [] := List.length_eq_zero_iff.1 h0
  subst hn
  cases A with
  | none =>
   have k := run_convert_bytes_string (P := C.P) w src dstT e none 0 c hs he hd
   have k2 : (Conv.bytesToString (.slice none 0 c)).run C.P w = .ok (.string ⟨#[]⟩) w := rfl
   have hx' : env.ev x = .slice none 0 c := hx
   simp [execOp, hx', k.trans k2]
  | some a =>
   have k : (Go.convert src dstT (.slice (some a) 0 c)).run C.P w = .ok (.string ⟨#[]⟩) w := run_convert_bytes_back (P := C.P) w src dstT e a c [] hs he hd fun j hj => by cases hj
   have hx' : env.ev x = .slice (some a) 0 c := hx
   simp [execOp, hx', k]
 ·exact Qt.bytesStr hs he hd hx hn h0 h w hw
theorem Qt.eqStrD {s t : List UInt8} (hx : env.ev x = .string ⟨s.toArray⟩) (hy : env.ev y = .string ⟨t.toArray⟩) : Qt C L ⟨dst, .binOp .eql T x y ty2, ty, pos, after, guard⟩ env (.bool (decide (s = t))) := fun w _ => by
 simp [execOp, hx, hy, binOp, eqGuard, Op.stringOp]
 rw [Bool.eq_iff_iff]; simp
end
/-! two proofs of one root -/
theorem zdR {h : Nat} {l r l' r' : H32} (e : zaM h l r = zaM h l' r') : l = l' ∧ r = r' := by
 unfold zaM at e
 have e1 : l.1 ++ r.1 = l'.1 ++ r'.1 := by simpa using e
 have := List.append_inj e1 (by rw [l.2, l'.2])
 exact ⟨Subtype.ext this.1, Subtype.ext this.2⟩
theorem zd8 {a b : List H32} (ha : a.length = 1) (hb : b.length = 1) (e : a.headD zac = b.headD zac) : a = b := by
 match a, b, ha, hb with
 | [x], [y], _, _ => simp at e; rw [e]
theorem zmN : ∀ (l : Nat) (xs : List Nat) (p : Nat) (ls bs ls' bs' : List H32), xs.Pairwise (· < ·) → (∀ x ∈ xs, x / 2 ^ l = p) → ls.length = xs.length → ls'.length = xs.length → bs.length = (zaj l xs p).length → bs'.length = (zaj l xs p).length →
  zaH l xs p ls bs = zaH l xs p ls' bs' → (ls = ls' ∧ bs = bs') ∨ ∃ t ∈ zbo l xs p ls bs, ∃ u ∈ zbo l xs p ls' bs', t ≠ u ∧ shaH t = shaH u := by
 intro l
 induction l with
 | zero =>
  intro xs p ls bs ls' bs' hs hx h1 h2 h3 h4 he
  left
  by_cases hn : xs = []
  ·subst hn
   rw [zbJ, zbJ] at he
   rw [zbF] at h3 h4
   exact ⟨by rw [List.length_eq_zero_iff.1 h1, List.length_eq_zero_iff.1 h2], zd8 h3 h4 he⟩
  ·have hp := List.length_pos_iff.2 hn
   have ho := zlU hs hx
   rw [zdl hn, zdl hn] at he
   rw [zd7 hn] at h3 h4
   exact ⟨zd8 ow ow he, by rw [List.length_eq_zero_iff.1 h3, List.length_eq_zero_iff.1 h4]⟩
 | succ l ih =>
  intro xs p ls bs ls' bs' hs hx h1 h2 h3 h4 he
  by_cases hn : xs = []
  ·subst hn
   rw [zbJ, zbJ] at he
   rw [zbF] at h3 h4
   exact .inl ⟨by rw [List.length_eq_zero_iff.1 h1, List.length_eq_zero_iff.1 h2], zd8 h3 h4 he⟩
  ·have hpn := congrArg List.length (zcy l p xs hs hx)
   rw [List.length_append] at hpn
   rw [zcc hn, List.length_append] at h3 h4
   rw [zcd hn, zcd hn] at he
   rw [zbU hn, zbU hn]
   by_cases hj : zaM (l + 1) (zaH l (cutN xs l (2 * p)) (2 * p) (ls.take (cutN xs l (2 * p)).length) (bs.take (zaj l (cutN xs l (2 * p)) (2 * p)).length)) (zaH l (cutN xs l (2 * p + 1)) (2 * p + 1) (ls.drop (cutN xs l (2 * p)).length) (bs.drop (zaj l (cutN xs l (2 * p)) (2 * p)).length)) =
     zaM (l + 1) (zaH l (cutN xs l (2 * p)) (2 * p) (ls'.take (cutN xs l (2 * p)).length) (bs'.take (zaj l (cutN xs l (2 * p)) (2 * p)).length)) (zaH l (cutN xs l (2 * p + 1)) (2 * p + 1) (ls'.drop (cutN xs l (2 * p)).length) (bs'.drop (zaj l (cutN xs l (2 * p)) (2 * p)).length))
   ·obtain ⟨e1, e2⟩ := zdR hj
    have i1 := ih (cutN xs l (2 * p)) (2 * p) _ _ _ _ (zbN hs) zcg (by rw [List.length_take]; omega) (by rw [List.length_take]; omega) (by rw [List.length_take]; omega) (by rw [List.length_take]; omega) e1
    have i2 := ih (cutN xs l (2 * p + 1)) (2 * p + 1) _ _ _ _ (zbN hs) zcg (by rw [List.length_drop]; omega) (by rw [List.length_drop]; omega) (by rw [List.length_drop]; omega) (by rw [List.length_drop]; omega) e2
    rcases i1 with ⟨a1, a2⟩ | ⟨t, ht, u, hu, h5⟩
    ·rcases i2 with ⟨b1, b2⟩ | ⟨t, ht, u, hu, h5⟩
     ·left
      constructor
      ·rw [← List.take_append_drop (cutN xs l (2 * p)).length ls, a1, b1, List.take_append_drop]
      ·rw [← List.take_append_drop (zaj l (cutN xs l (2 * p)) (2 * p)).length bs, a2, b2, List.take_append_drop]
     ·exact .inr ⟨t, List.mem_append.2 (.inl (List.mem_append.2 (.inr ht))), u, List.mem_append.2 (.inl (List.mem_append.2 (.inr hu))), h5⟩
    ·exact .inr ⟨t, List.mem_append.2 (.inl (List.mem_append.2 (.inl ht))), u, List.mem_append.2 (.inl (List.mem_append.2 (.inl hu))), h5⟩
   ·exact .inr ⟨_, List.mem_append.2 (.inr (List.mem_singleton.2 rfl)), _, List.mem_append.2 (.inr (List.mem_singleton.2 rfl)), hj, he⟩
section
variable {C : Ctx} {env : Env} {L : List Assn} {dst : Option Tmp} {ty ty2 : TypeId} {pos : String} {after : Array Edge} {guard : Option (Nat × Bool)} {x y : Operand} {T : TypeId} {s t : List UInt8}
theorem Qt.neStr (hx : env.ev x = .string ⟨s.toArray⟩) (hy : env.ev y = .string ⟨t.toArray⟩) : Qt C L ⟨dst, .binOp .neq T x y ty2, ty, pos, after, guard⟩ env (.bool (decide (s ≠ t))) := fun w _ => by
 simp [execOp, hx, hy, binOp, eqGuard, Op.stringOp]
 rw [Bool.eq_iff_iff]; simp
end
theorem zlV {z : Int} {xs : List Nat} {ls bs : List H32} (h : (zbL z xs ls bs).2 = 0) : ∃ height : Nat, z = (height : Int) ∧ height ≤ 32 ∧ idxOk height xs ∧ ls.length = xs.length ∧ bs.length = (zaj height xs 0).length ∧ (zbL z xs ls bs).1 = zaH height xs 0 ls bs := by
 by_cases hz : z < 0 ∨ 32 < z
 ·rw [zbL, if_pos hz] at h; exact absurd h (by decide)
 ·obtain ⟨height, rfl⟩ : ∃ n : Nat, z = (n : Int) := ⟨z.toNat, by omega⟩
  have hh : height ≤ 32 := by omega
  rw [zcH hh] at h ⊢
  by_cases hi : idxOk height xs
  ·by_cases h2 : ls.length = xs.length
   ·by_cases h3 : bs.length = (zaj height xs 0).length
    ·exact ⟨height, rfl, hh, hi, h2, h3, by rw [zit hi h2 h3]⟩
    ·rw [zkH hi h2 h3] at h; exact absurd h (by decide)
   ·rw [zkG hi h2] at h; exact absurd h (by decide)
  ·rw [zkF hi] at h; exact absurd h (by decide)
variable {C : Ctx} {env : Env} {L : List Assn}
variable {dst : Option Tmp} {ty ty2 T : TypeId} {pos : String} {after : Array Edge} {guard : Option (Nat × Bool)} {x y : Operand} {a b : Bool}
theorem Qt.neb (ht : C.P.underlying T = some .bool) (hx : env.ev x = .bool a) (hy : env.ev y = .bool b) : Qt C L ⟨dst, .binOp .neq T x y ty2, ty, pos, after, guard⟩ env (.bool (a != b)) := fun w _ => by
 have h : (Op.equal T (.bool a) (.bool b)).run C.P w = .ok (a == b) w := run_equalIn_bool' w 9999 T a b ht
 simp [execOp, hx, hy, eqGuard, binOp, h]
 cases a <;> cases b <;> rfl
end Go.E
namespace Go.E
section
variable {C : Ctx} {env : Env} {L : List Assn} {dst : Option Tmp} {ty : TypeId} {pos : String} {after : Array Edge} {guard : Option (Nat × Bool)} {x y : Operand} {T e : TypeId} {K' : Value → List Assn → Prop}
theorem OpV.makeS {sz bytes n : Nat} {z : Value} {cs : List Value} {kl kc : IntKind} (ht : C.P.underlying T = some (.slice e)) (he : zcn C.P e sz bytes) (hz : zeJ C.P e = some z) (hx : env.ev x = .int kl (n : Int)) (hy : env.ev y = .int kc (n : Int))
  (hn : n * sz ≤ 16777216) (hb : (bytes : Int) * (n : Int) ≤ 281474976710656) (hm : n ≤ 65536) (hc : madeCells z.cells (n * sz) = cs.toArray) (h : ∀ b, K' (.slice (some ⟨b, 0, none⟩) n n) (Blk b e cs :: L)) : OpV C ⟨dst, .makeSlice T x y, ty, pos, after, guard⟩ env L K' := fun w hw => by
 obtain ⟨i, zv, hi, hzv, hsz, hby, hcs, hpos⟩ := he
 obtain rfl : zv = z := by
  have : zeJ C.P e = some zv := by simp [zeJ, hi, hzv]
  rw [this] at hz; injection hz
 have hrun : (execOp env.ev ⟨dst, .makeSlice T x y, ty, pos, after, guard⟩).run C.P w = .ok (.value (.slice (some ⟨w.heap.size, 0, none⟩) n n)) (w.alloc (.cells cs.toArray e)) := by
  have k := run_makeSlice (P := C.P) w T e i zv ht hi hzv kl kc (n : Int) (n : Int) ow ow (by rw [hsz]; simpa using hn) (by rw [hby]; exact hb) ow
  simp only [Int.toNat_natCast] at k
  rw [hsz, hc] at k
  simp [execOp, hx, hy, k]
 rw [hrun]
 refine ⟨_, hw.alloc _, ?_⟩
 exact h w.heap.size
end
set_option linter.unusedSectionVars false
variable {C : Ctx} {env : Env} {L : List Assn} {e : TypeId}
variable {dst : Option Tmp} {ty : TypeId} {pos : String} {after : Array Edge} {guard : Option (Nat × Bool)} {x y z : Operand} {T : TypeId} {K' : Value → List Assn → Prop}
theorem OpV.app8 {B0 B1 B2 B3 B4 B5 B6 B7 : Assn} {R : List Assn} {A B : OAd} {n c m c' sz bytes : Nat} {xs news : List Value} (ht : C.P.underlying T = some (.slice e)) (he : zcn C.P e sz bytes)
  (hx : env.ev x = .slice A n c) (hy : env.ev y = .slice B m c') (hs : Has C (B0 :: B1 :: B2 :: B3 :: B4 :: B5 :: B6 :: B7 :: OwnA e sz A n c xs :: R) (SlA B news)) (hl : news.length = m * sz) (h1 : ∀ u ∈ news, u.oneCell' = true)
  (h63 : n + m ≤ maxLen) (hby : (n + m) * bytes ≤ 140737488355328)
  (h : ∀ A' c', K' (.slice A' (n + m) c') (B0 :: B1 :: B2 :: B3 :: B4 :: B5 :: B6 :: B7 :: OwnA e sz A' (n + m) c' (xs ++ news) :: R)) :
  OpV C ⟨dst, .call { callee := .builtin .append, args := #[x, y], argTypes := #[T, T] }, ty, pos, after, guard⟩ env (B0 :: B1 :: B2 :: B3 :: B4 :: B5 :: B6 :: B7 :: OwnA e sz A n c xs :: R) K' := OpV.appendG (L1 := [B0, B1, B2, B3, B4, B5, B6, B7]) ht he hx hy hs hl h1 h63 hby h
theorem OpV.storeV8 {dst : Option Tmp} {ty : TypeId} {pos : String} {after : Array Edge} {guard : Option (Nat × Bool)} {x y : Operand} {v : Value} {T T' : TypeId} {K : Value → List Assn → Prop} {B0 B1 B2 B3 B4 B5 B6 B7 : Assn} {R : List Assn} {b : Nat} {cs : List Value}
  (hx : env.ev x = .pointer (some ⟨b, 0, none⟩)) (hy : env.ev y = v) (hs : (C.P.info? T).map (·.size) = some (vl v).length) (h1 : (vl v).all (·.oneCell') = true) (hl : (vl v).length = cs.length)
  (h : K undef (B0 :: B1 :: B2 :: B3 :: B4 :: B5 :: B6 :: B7 :: Blk b T' (vl v) :: R)) : OpV C ⟨dst, .store T x y, ty, pos, after, guard⟩ env (B0 :: B1 :: B2 :: B3 :: B4 :: B5 :: B6 :: B7 :: Blk b T' cs :: R) K :=
 OpV.storeG (L1 := [B0, B1, B2, B3, B4, B5, B6, B7]) hx hy hs h1 ow (zcZ hl) h
theorem OpV.storeV9 {dst : Option Tmp} {ty : TypeId} {pos : String} {after : Array Edge} {guard : Option (Nat × Bool)} {x y : Operand} {v : Value} {T T' : TypeId} {K : Value → List Assn → Prop} {B0 B1 B2 B3 B4 B5 B6 B7 B8 : Assn} {R : List Assn} {b : Nat} {cs : List Value}
  (hx : env.ev x = .pointer (some ⟨b, 0, none⟩)) (hy : env.ev y = v) (hs : (C.P.info? T).map (·.size) = some (vl v).length) (h1 : (vl v).all (·.oneCell') = true) (hl : (vl v).length = cs.length)
  (h : K undef (B0 :: B1 :: B2 :: B3 :: B4 :: B5 :: B6 :: B7 :: B8 :: Blk b T' (vl v) :: R)) : OpV C ⟨dst, .store T x y, ty, pos, after, guard⟩ env (B0 :: B1 :: B2 :: B3 :: B4 :: B5 :: B6 :: B7 :: B8 :: Blk b T' cs :: R) K :=
 OpV.storeG (L1 := [B0, B1, B2, B3, B4, B5, B6, B7, B8]) hx hy hs h1 ow (zcZ hl) h
end Go.E
