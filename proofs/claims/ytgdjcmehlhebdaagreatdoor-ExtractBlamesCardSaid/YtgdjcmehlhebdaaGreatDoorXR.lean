/- Lists of lists of hashes, put one behind the other; a level's texts. -/
import Derived.Test.YtgdjcmehlhebdaaGreatDoorXQ
import Derived.Test.YtgdjcmehlhebdaaGreatDoorXS
set_option maxHeartbeats 25600000
namespace Go.E
abbrev Hx := OAd × Nat × List H32
def hx0 : Hx := (none, 0, [])
def hxL (t : Hx) : List Value := [.slice t.1 t.2.2.length t.2.1]
theorem zrX (ss : List Hx) : (ss.flatMap hxL).length = ss.length := by
 induction ss with
 | nil => rfl
 | cons t ts ih => rw [List.flatMap_cons, List.length_append, ih]; simp [hxL]; omega
theorem ztq {ss : List Hx} {k : Nat} (h : k < ss.length) : (ss.flatMap hxL)[k * 1]? = some (.slice (ss.getD k hx0).1 (ss.getD k hx0).2.2.length (ss.getD k hx0).2.1) := by
 have := zeu (encL := hxL) (sz := 1) (fun _ => rfl) ss k _ (getD_some hx0 h) 0 _ rfl
 rwa [Nat.add_zero] at this
def cat (ss : List Hx) (k : Nat) : List H32 := (ss.take k).flatMap fun t => t.2.2
theorem zmh {ss : List Hx} {k : Nat} (h : k < ss.length) : cat ss (k + 1) = cat ss k ++ (ss.getD k hx0).2.2 := by
 unfold cat
 rw [List.take_succ_eq_append_getElem h, List.flatMap_append]
 simp [List.getD, h]
theorem zlf {ss : List Hx} {k : Nat} (h : k < ss.length) : (cat ss (k + 1)).length = (cat ss k).length + (ss.getD k hx0).2.2.length := by rw [zmh h, List.length_append]
theorem zrY (ss : List Hx) : ∀ {j k : Nat}, j ≤ k → k ≤ ss.length → (cat ss j).length ≤ (cat ss k).length
 | j, k, h, hk => by
  obtain ⟨d, rfl⟩ := Nat.le.dest h
  clear h
  induction d with
  | zero => exact Nat.le_refl _
  | succ d ih => have := zlf (ss := ss) (k := j + d) ow; have := ih ow; rw [← Nat.add_assoc]; omega
theorem zcx {α : Type} (m : Nat) (g : Nat → α) : (List.finRange m).map (fun i : Fin m => g i.val) = (List.range m).map g := by
 refine List.ext_getElem (by simp) fun i h1 h2 => by simp
def zbY (z : Int) (f : Nat) (ls left right : List H32) : Option (List (List UInt8)) := if (zbM z f ls left right).2 = 0 then some (zdt f ls.length z.toNat ls left right z.toNat) else none
theorem Ro.inMany {w : World} {M : List Nat} {A : Assn} {Ls : List Assn} (h : Ro w M (Many Ls)) (hA : A ∈ Ls) : Ro w M A := ⟨h.1 A hA, fun b hb => h.2 b (zcY.2 ⟨A, hA, hb⟩)⟩
theorem ztr {C : Ctx} {L Ls : List Assn} {e : TypeId} {sz n c : Nat} {A : OAd} {cs : List Value} (h : Rd C L (Many Ls)) (hx : OwnA e sz A n c cs ∈ Ls ∨ Ro C.w0 C.M (SlA A cs)) : Rd C L (SlA A cs) := hx.elim (fun m => (h.many m).own) Rd.ro
theorem zts {w0 w : World} {M : List Nat} {Pre R Ls : List Assn} {e : TypeId} {sz n c : Nat} {A : OAd} {cs : List Value} (hw : St w0 M (Pre ++ R) w) (hm : Many Ls ∈ R) (hx : OwnA e sz A n c cs ∈ Ls ∨ Ro w0 M (SlA A cs)) : Ro w (fps Pre) (SlA A cs) := hx.elim (fun m => ((Ro.of_rest hw hm).inMany m).own) (Ro.of_pre hw)
theorem TL.manyOne {C : Ctx} {Q : EQ} {env : Env} {ops : Array Oper} {l : List Oper} {A : Assn} {L : List Assn} (h : TL C ops Q l env (Many [A] :: L)) : TL C ops Q l env (A :: L) := fun a w ha hw => h a w ha (St.many.2 hw)
theorem zrZ {a x y : Value} : ∀ j v, [x, y][j]? = some v → [a, x, y][1 + j]? = some v := fun j v h => by rw [Nat.add_comm]; exact h
theorem zg4 {l : List H32} {i : Nat} (h : i < l.length) : (hcs (l.drop i)).take 32 = hcs [l.getD i zac] := by
 rw [List.drop_eq_getElem_cons h, za7, List.take_left' (zag _)]
 simp [hcs, List.getD, h]
theorem zfs {x y : Value} (hx : (vl x).length = 1) (hy : (vl y).length = 1) : ∀ v ∈ [x, y], (vl v).length = 1 := fun v hv => (List.mem_cons.1 hv).elim (fun e => e ▸ hx) (fun h => List.mem_singleton.1 h ▸ hy)
theorem zbP {f n h k : Nat} {ls left right : List H32} {tt : List Tx} (h1 : 1 ≤ n) (h2 : n ≤ 256) (hk : k ≤ 32) (e : tt.map (fun t => t.2.2) = zdt f n h ls left right k) : tt.length ≤ 8192 := by
 have a := congrArg List.length e
 rw [List.length_map] at a
 have b := zg2 (f := f) (h := h) h1 ls left right k
 have c : n * k ≤ 256 * 32 := Nat.mul_le_mul h2 hk
 omega
theorem zmi (z : Int) (f : Nat) (ls left right : List H32) : TxLe (zbY z f ls left right) := fun xs h t ht => by
 unfold zbY at h
 split at h
 ·obtain rfl := Option.some.inj h
  unfold zdt at ht
  obtain ⟨k, _, hk⟩ := List.mem_flatMap.1 ht
  obtain ⟨i, _, rfl⟩ := List.mem_map.1 hk
  rw [zba]; decide
 ·cases h
variable {f n h : Nat} {ls left right : List H32}
end Go.E
namespace Go.E
theorem zrm {z : Int} {f : Nat} {ls left right ls' left' right' : List H32} : ∀ p ∈ (if ls.length = ls'.length then zbl (zbY z f ls left right) (zbY z f ls' left' right') else []), p.1.length ≤ 70368744177664 ∧ p.2.length ≤ 70368744177664 := fun p hp => by
 split at hp
 ·exact zeb (zmi _ _ _ _ _) (zmi _ _ _ _ _) p hp
 ·cases hp
theorem ztt {E : Nat → H32} {height : Nat} {g : Nat → H32} {ms : Tm} (ht : TreeOk E height g ms) {is : List Nat} (hs : ∀ p, g p ≠ E 0 → p ∈ is) (hl : is.length < 4294967296) : (lv0 (zas ms)).length < 4294967296 := by
 have h1 : (lvT ms).Nodup := (zl3 ht.nodup).imp fun {a b} h => Nat.ne_of_lt h
 have h2 := zgK h1 fun p hp => hs p (ht.lv.1 hp).2
 have h3 : (lvT ms).length = (lv0 (zas ms)).length := (zd9 _).length_eq
 omega
def idxF (f n : Nat) : List Nat := (List.range n).map (f + ·)
theorem zrn (f n : Nat) : (idxF f n).length = n := by simp [idxF]
theorem ze4 {κ : Type} [DecidableEq κ] (F : κ → H32) (a : κ) : ∀ (s : List κ) (h : H32), look a (s.zip (s.map F)) = some h → h = F a
 | [], h, e => by simp [zdc] at e
 | x :: s, h, e => by
  rw [List.map_cons, List.zip_cons_cons, za5] at e
  split at e
  ·rename_i hx
   have hx' : a = x := hx
   rw [hx', ← Option.some.inj e]
  ·exact ze4 F a s h e
theorem zro {E : Nat → H32} {g : Nat → H32} {ms : Tm} {f n h : Nat} (ht : TreeOk E h g ms) (h1 : 1 ≤ n) (hf : f + n ≤ 2 ^ h)
  (c : RowCtx f n h ((idxF f n).map fun x => getT E ms (0, x)) ((zaq f h).map fun a => getT E ms a) ((zan (f + n - 1) h).map fun a => getT E ms a)) : ∀ l p, l ≤ h → okAt h (l, p) →
  NodeOk ((zaq f h).zip ((zaq f h).map fun a => getT E ms a)) ((zan (f + n - 1) h).zip ((zan (f + n - 1) h).map fun a => getT E ms a)) f (f + n - 1) l p →
  refN ((zaq f h).zip ((zaq f h).map fun a => getT E ms a)) ((zan (f + n - 1) h).zip ((zan (f + n - 1) h).map fun a => getT E ms a)) ((idxF f n).map fun x => getT E ms (0, x)) f l p = zbq g l p := by
 intro l
 induction l with
 | zero =>
  intro p hl ho hk
  cases e0 : look (0, p) ((zaq f h).zip ((zaq f h).map fun a => getT E ms a)) with
  | some v => rw [zg0 e0, ze4 _ _ _ _ e0]; exact ht.get _ ho
  | none =>
   cases e1 : look (0, p) ((zan (f + n - 1) h).zip ((zan (f + n - 1) h).map fun a => getT E ms a)) with
   | some v => rw [zfq e0 e1, ze4 _ _ _ _ e1]; exact ht.get _ ho
   | none =>
    obtain ⟨k1, k2⟩ := hk.leaf e0 e1
    have h5 : p - f < n := by omega
    rw [zjZ e0 e1, show ((idxF f n).map fun x => getT E ms (0, x)).getD (p - f) zac = getT E ms (0, p) by simp [idxF, List.getD, h5, show f + (p - f) = p by omega]]
    exact ht.get _ ho
 | succ l ih =>
  intro p hl ho hk
  cases e0 : look (l + 1, p) ((zaq f h).zip ((zaq f h).map fun a => getT E ms a)) with
  | some v => rw [zg0 e0, ze4 _ _ _ _ e0]; exact ht.get _ ho
  | none =>
   cases e1 : look (l + 1, p) ((zan (f + n - 1) h).zip ((zan (f + n - 1) h).map fun a => getT E ms a)) with
   | some v => rw [zfq e0 e1, ze4 _ _ _ _ e1]; exact ht.get _ ho
   | none =>
    obtain ⟨k1, k2⟩ := NodeOk.kids c hl hk e0 e1
    obtain ⟨o1, o2⟩ := zdP ho
    rw [zj0 e0 e1, ih _ ow o1 k1, ih _ ow o2 k2]; rfl
theorem zpu {E : Nat → H32} {g : Nat → H32} {ms : Tm} {f n h : Nat} (hh : h ≤ 32) (ht : TreeOk E h g ms) (h1 : 1 ≤ n) (h2 : n ≤ 256) (hf : f + n ≤ 2 ^ h) :
  chkS (getT E ms (h, 0)) (h : Int) f ((idxF f n).map fun x => getT E ms (0, x)) ((zaq f h).map fun a => getT E ms a) ((zan (f + n - 1) h).map fun a => getT E ms a) = 0 := by
 have hl : ((idxF f n).map fun x => getT E ms (0, x)).length = n := by rw [List.length_map, zrn]
 have c : RowCtx f n h ((idxF f n).map fun x => getT E ms (0, x)) ((zaq f h).map fun a => getT E ms a) ((zan (f + n - 1) h).map fun a => getT E ms a) := ⟨h1, hf, hl, by rw [List.length_map], by rw [List.length_map]⟩
 have e : zbM (h : Int) f ((idxF f n).map fun x => getT E ms (0, x)) ((zaq f h).map fun a => getT E ms a) ((zan (f + n - 1) h).map fun a => getT E ms a) = (getT E ms (h, 0), 0) := by
  rw [zg1 hh, zle (by rw [hl]; exact ⟨h1, h2, hf⟩) (by rw [hl]; exact ⟨by rw [List.length_map], by rw [List.length_map]⟩), hl, zro ht h1 hf c h 0 (Nat.le_refl _) (zek h) (NodeOk.root c), ht.get _ (zek h)]
 rw [chkS, e]; simp
end Go.E
