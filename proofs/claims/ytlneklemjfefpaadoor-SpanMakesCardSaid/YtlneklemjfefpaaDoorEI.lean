/-
  The program logic, ninth part: the rules that change one assertion of the list, by its place; hashes as lists of bytes.
-/
import Derived.Test.YtlneklemjfefpaaDoorEH
namespace Go.E
set_option linter.unusedVariables false
set_option linter.unusedSectionVars false
variable {C : Ctx} {env : Env} {L : List Assn}
variable {κ α : Type} [DecidableEq κ] {K E e : TypeId} {enc : κ → Value} {encv : α → Value}
variable {dst : Option Tmp} {ty : TypeId} {pos : String} {after : Array Edge} {guard : Option (Nat × Bool)} {x y z : Operand} {v : Value} {T : TypeId} {b : Nat} {ms : List (κ × α)} {k : κ} {a : α} {K' : Value → List Assn → Prop}

theorem OpV.mapUpd0 {R : List Assn} (ht : C.P.underlying T = some (.map K E)) (law : KeyLaw C.P K enc) (hx : env.ev x = .map (some b)) (hy : env.ev y = enc k) (hz : env.ev z = encv a)
    (h : K' undef (MapA b enc encv (updR k a ms) :: R)) : OpV C ⟨dst, .mapUpdate T x y z, ty, pos, after, guard⟩ env (MapA b enc encv ms :: R) K' := OpV.mapUpdateG (L1 := []) ht law hx hy hz h
theorem OpV.mapDel0 {R : List Assn} {tys : Array TypeId} (htys : tys[0]? = some T) (ht : C.P.underlying T = some (.map K E)) (law : KeyLaw C.P K enc) (hx : env.ev x = .map (some b)) (hy : env.ev y = enc k)
    (h : K' (.tuple #[]) (MapA b enc encv (delR k ms) :: R)) : OpV C ⟨dst, .call { callee := .builtin .delete, args := #[x, y], argTypes := tys }, ty, pos, after, guard⟩ env (MapA b enc encv ms :: R) K' := OpV.deleteG (L1 := []) htys ht law hx hy h
theorem OpV.app0 {R : List Assn} {A B : Option Addr} {n c m c' sz bytes : Nat} {xs news : List Value} (ht : C.P.underlying T = some (.slice e)) (he : elemT C.P e sz bytes)
    (hx : env.ev x = .slice A n c) (hy : env.ev y = .slice B m c') (hs : Has C (OwnA e sz A n c xs :: R) (SlA B news)) (hl : news.length = m * sz) (h1 : ∀ u ∈ news, u.oneCell' = true)
    (h63 : n + m ≤ maxLen) (hby : (n + m) * bytes ≤ 140737488355328)
    (h : ∀ A' c', K' (.slice A' (n + m) c') (OwnA e sz A' (n + m) c' (xs ++ news) :: R)) :
    OpV C ⟨dst, .call { callee := .builtin .append, args := #[x, y], argTypes := #[T, T] }, ty, pos, after, guard⟩ env (OwnA e sz A n c xs :: R) K' := OpV.appendG (L1 := []) ht he hx hy hs hl h1 h63 hby h
theorem OpV.next0 {R : List Assn} {it m clock : Nat} {es : Array MapEntry} {ds : List MapEntry} (hx : env.ev x = .pointer (some ⟨it, 0, none⟩)) (h : Has C (IterA it m clock ds :: R) (IsObj m (.map es clock))) (hc : ∀ e ∈ es.toList, e.born < clock)
    (h0 : (∀ e ∈ es.toList, e.born ∈ ds.map (·.born)) → K' (.tuple #[.bool false]) (IterA it m clock ds :: R))
    (h1 : ∀ e ∈ es.toList, e.born ∉ ds.map (·.born) → K' (.tuple #[.bool true, e.key, e.val]) (IterA it m clock (ds ++ [e]) :: R)) :
    OpV C ⟨dst, .next x false, ty, pos, after, guard⟩ env (IterA it m clock ds :: R) K' := OpV.nextG (L1 := []) hx h hc h0 h1

theorem OpV.mapUpd1 {B0 : Assn} {R : List Assn} (ht : C.P.underlying T = some (.map K E)) (law : KeyLaw C.P K enc) (hx : env.ev x = .map (some b)) (hy : env.ev y = enc k) (hz : env.ev z = encv a)
    (h : K' undef (B0 :: MapA b enc encv (updR k a ms) :: R)) : OpV C ⟨dst, .mapUpdate T x y z, ty, pos, after, guard⟩ env (B0 :: MapA b enc encv ms :: R) K' := OpV.mapUpdateG (L1 := [B0]) ht law hx hy hz h
theorem OpV.mapDel1 {B0 : Assn} {R : List Assn} {tys : Array TypeId} (htys : tys[0]? = some T) (ht : C.P.underlying T = some (.map K E)) (law : KeyLaw C.P K enc) (hx : env.ev x = .map (some b)) (hy : env.ev y = enc k)
    (h : K' (.tuple #[]) (B0 :: MapA b enc encv (delR k ms) :: R)) : OpV C ⟨dst, .call { callee := .builtin .delete, args := #[x, y], argTypes := tys }, ty, pos, after, guard⟩ env (B0 :: MapA b enc encv ms :: R) K' := OpV.deleteG (L1 := [B0]) htys ht law hx hy h
theorem OpV.app1 {B0 : Assn} {R : List Assn} {A B : Option Addr} {n c m c' sz bytes : Nat} {xs news : List Value} (ht : C.P.underlying T = some (.slice e)) (he : elemT C.P e sz bytes)
    (hx : env.ev x = .slice A n c) (hy : env.ev y = .slice B m c') (hs : Has C (B0 :: OwnA e sz A n c xs :: R) (SlA B news)) (hl : news.length = m * sz) (h1 : ∀ u ∈ news, u.oneCell' = true)
    (h63 : n + m ≤ maxLen) (hby : (n + m) * bytes ≤ 140737488355328)
    (h : ∀ A' c', K' (.slice A' (n + m) c') (B0 :: OwnA e sz A' (n + m) c' (xs ++ news) :: R)) :
    OpV C ⟨dst, .call { callee := .builtin .append, args := #[x, y], argTypes := #[T, T] }, ty, pos, after, guard⟩ env (B0 :: OwnA e sz A n c xs :: R) K' := OpV.appendG (L1 := [B0]) ht he hx hy hs hl h1 h63 hby h
theorem OpV.next1 {B0 : Assn} {R : List Assn} {it m clock : Nat} {es : Array MapEntry} {ds : List MapEntry} (hx : env.ev x = .pointer (some ⟨it, 0, none⟩)) (h : Has C (B0 :: IterA it m clock ds :: R) (IsObj m (.map es clock))) (hc : ∀ e ∈ es.toList, e.born < clock)
    (h0 : (∀ e ∈ es.toList, e.born ∈ ds.map (·.born)) → K' (.tuple #[.bool false]) (B0 :: IterA it m clock ds :: R))
    (h1 : ∀ e ∈ es.toList, e.born ∉ ds.map (·.born) → K' (.tuple #[.bool true, e.key, e.val]) (B0 :: IterA it m clock (ds ++ [e]) :: R)) :
    OpV C ⟨dst, .next x false, ty, pos, after, guard⟩ env (B0 :: IterA it m clock ds :: R) K' := OpV.nextG (L1 := [B0]) hx h hc h0 h1

theorem OpV.mapUpd2 {B0 B1 : Assn} {R : List Assn} (ht : C.P.underlying T = some (.map K E)) (law : KeyLaw C.P K enc) (hx : env.ev x = .map (some b)) (hy : env.ev y = enc k) (hz : env.ev z = encv a)
    (h : K' undef (B0 :: B1 :: MapA b enc encv (updR k a ms) :: R)) : OpV C ⟨dst, .mapUpdate T x y z, ty, pos, after, guard⟩ env (B0 :: B1 :: MapA b enc encv ms :: R) K' := OpV.mapUpdateG (L1 := [B0, B1]) ht law hx hy hz h
theorem OpV.mapDel2 {B0 B1 : Assn} {R : List Assn} {tys : Array TypeId} (htys : tys[0]? = some T) (ht : C.P.underlying T = some (.map K E)) (law : KeyLaw C.P K enc) (hx : env.ev x = .map (some b)) (hy : env.ev y = enc k)
    (h : K' (.tuple #[]) (B0 :: B1 :: MapA b enc encv (delR k ms) :: R)) : OpV C ⟨dst, .call { callee := .builtin .delete, args := #[x, y], argTypes := tys }, ty, pos, after, guard⟩ env (B0 :: B1 :: MapA b enc encv ms :: R) K' := OpV.deleteG (L1 := [B0, B1]) htys ht law hx hy h
theorem OpV.app2 {B0 B1 : Assn} {R : List Assn} {A B : Option Addr} {n c m c' sz bytes : Nat} {xs news : List Value} (ht : C.P.underlying T = some (.slice e)) (he : elemT C.P e sz bytes)
    (hx : env.ev x = .slice A n c) (hy : env.ev y = .slice B m c') (hs : Has C (B0 :: B1 :: OwnA e sz A n c xs :: R) (SlA B news)) (hl : news.length = m * sz) (h1 : ∀ u ∈ news, u.oneCell' = true)
    (h63 : n + m ≤ maxLen) (hby : (n + m) * bytes ≤ 140737488355328)
    (h : ∀ A' c', K' (.slice A' (n + m) c') (B0 :: B1 :: OwnA e sz A' (n + m) c' (xs ++ news) :: R)) :
    OpV C ⟨dst, .call { callee := .builtin .append, args := #[x, y], argTypes := #[T, T] }, ty, pos, after, guard⟩ env (B0 :: B1 :: OwnA e sz A n c xs :: R) K' := OpV.appendG (L1 := [B0, B1]) ht he hx hy hs hl h1 h63 hby h
theorem OpV.next2 {B0 B1 : Assn} {R : List Assn} {it m clock : Nat} {es : Array MapEntry} {ds : List MapEntry} (hx : env.ev x = .pointer (some ⟨it, 0, none⟩)) (h : Has C (B0 :: B1 :: IterA it m clock ds :: R) (IsObj m (.map es clock))) (hc : ∀ e ∈ es.toList, e.born < clock)
    (h0 : (∀ e ∈ es.toList, e.born ∈ ds.map (·.born)) → K' (.tuple #[.bool false]) (B0 :: B1 :: IterA it m clock ds :: R))
    (h1 : ∀ e ∈ es.toList, e.born ∉ ds.map (·.born) → K' (.tuple #[.bool true, e.key, e.val]) (B0 :: B1 :: IterA it m clock (ds ++ [e]) :: R)) :
    OpV C ⟨dst, .next x false, ty, pos, after, guard⟩ env (B0 :: B1 :: IterA it m clock ds :: R) K' := OpV.nextG (L1 := [B0, B1]) hx h hc h0 h1

theorem OpV.mapUpd3 {B0 B1 B2 : Assn} {R : List Assn} (ht : C.P.underlying T = some (.map K E)) (law : KeyLaw C.P K enc) (hx : env.ev x = .map (some b)) (hy : env.ev y = enc k) (hz : env.ev z = encv a)
    (h : K' undef (B0 :: B1 :: B2 :: MapA b enc encv (updR k a ms) :: R)) : OpV C ⟨dst, .mapUpdate T x y z, ty, pos, after, guard⟩ env (B0 :: B1 :: B2 :: MapA b enc encv ms :: R) K' := OpV.mapUpdateG (L1 := [B0, B1, B2]) ht law hx hy hz h
theorem OpV.mapDel3 {B0 B1 B2 : Assn} {R : List Assn} {tys : Array TypeId} (htys : tys[0]? = some T) (ht : C.P.underlying T = some (.map K E)) (law : KeyLaw C.P K enc) (hx : env.ev x = .map (some b)) (hy : env.ev y = enc k)
    (h : K' (.tuple #[]) (B0 :: B1 :: B2 :: MapA b enc encv (delR k ms) :: R)) : OpV C ⟨dst, .call { callee := .builtin .delete, args := #[x, y], argTypes := tys }, ty, pos, after, guard⟩ env (B0 :: B1 :: B2 :: MapA b enc encv ms :: R) K' := OpV.deleteG (L1 := [B0, B1, B2]) htys ht law hx hy h
theorem OpV.app3 {B0 B1 B2 : Assn} {R : List Assn} {A B : Option Addr} {n c m c' sz bytes : Nat} {xs news : List Value} (ht : C.P.underlying T = some (.slice e)) (he : elemT C.P e sz bytes)
    (hx : env.ev x = .slice A n c) (hy : env.ev y = .slice B m c') (hs : Has C (B0 :: B1 :: B2 :: OwnA e sz A n c xs :: R) (SlA B news)) (hl : news.length = m * sz) (h1 : ∀ u ∈ news, u.oneCell' = true)
    (h63 : n + m ≤ maxLen) (hby : (n + m) * bytes ≤ 140737488355328)
    (h : ∀ A' c', K' (.slice A' (n + m) c') (B0 :: B1 :: B2 :: OwnA e sz A' (n + m) c' (xs ++ news) :: R)) :
    OpV C ⟨dst, .call { callee := .builtin .append, args := #[x, y], argTypes := #[T, T] }, ty, pos, after, guard⟩ env (B0 :: B1 :: B2 :: OwnA e sz A n c xs :: R) K' := OpV.appendG (L1 := [B0, B1, B2]) ht he hx hy hs hl h1 h63 hby h
theorem OpV.next3 {B0 B1 B2 : Assn} {R : List Assn} {it m clock : Nat} {es : Array MapEntry} {ds : List MapEntry} (hx : env.ev x = .pointer (some ⟨it, 0, none⟩)) (h : Has C (B0 :: B1 :: B2 :: IterA it m clock ds :: R) (IsObj m (.map es clock))) (hc : ∀ e ∈ es.toList, e.born < clock)
    (h0 : (∀ e ∈ es.toList, e.born ∈ ds.map (·.born)) → K' (.tuple #[.bool false]) (B0 :: B1 :: B2 :: IterA it m clock ds :: R))
    (h1 : ∀ e ∈ es.toList, e.born ∉ ds.map (·.born) → K' (.tuple #[.bool true, e.key, e.val]) (B0 :: B1 :: B2 :: IterA it m clock (ds ++ [e]) :: R)) :
    OpV C ⟨dst, .next x false, ty, pos, after, guard⟩ env (B0 :: B1 :: B2 :: IterA it m clock ds :: R) K' := OpV.nextG (L1 := [B0, B1, B2]) hx h hc h0 h1

theorem OpV.mapUpd4 {B0 B1 B2 B3 : Assn} {R : List Assn} (ht : C.P.underlying T = some (.map K E)) (law : KeyLaw C.P K enc) (hx : env.ev x = .map (some b)) (hy : env.ev y = enc k) (hz : env.ev z = encv a)
    (h : K' undef (B0 :: B1 :: B2 :: B3 :: MapA b enc encv (updR k a ms) :: R)) : OpV C ⟨dst, .mapUpdate T x y z, ty, pos, after, guard⟩ env (B0 :: B1 :: B2 :: B3 :: MapA b enc encv ms :: R) K' := OpV.mapUpdateG (L1 := [B0, B1, B2, B3]) ht law hx hy hz h
theorem OpV.mapDel4 {B0 B1 B2 B3 : Assn} {R : List Assn} {tys : Array TypeId} (htys : tys[0]? = some T) (ht : C.P.underlying T = some (.map K E)) (law : KeyLaw C.P K enc) (hx : env.ev x = .map (some b)) (hy : env.ev y = enc k)
    (h : K' (.tuple #[]) (B0 :: B1 :: B2 :: B3 :: MapA b enc encv (delR k ms) :: R)) : OpV C ⟨dst, .call { callee := .builtin .delete, args := #[x, y], argTypes := tys }, ty, pos, after, guard⟩ env (B0 :: B1 :: B2 :: B3 :: MapA b enc encv ms :: R) K' := OpV.deleteG (L1 := [B0, B1, B2, B3]) htys ht law hx hy h
theorem OpV.app4 {B0 B1 B2 B3 : Assn} {R : List Assn} {A B : Option Addr} {n c m c' sz bytes : Nat} {xs news : List Value} (ht : C.P.underlying T = some (.slice e)) (he : elemT C.P e sz bytes)
    (hx : env.ev x = .slice A n c) (hy : env.ev y = .slice B m c') (hs : Has C (B0 :: B1 :: B2 :: B3 :: OwnA e sz A n c xs :: R) (SlA B news)) (hl : news.length = m * sz) (h1 : ∀ u ∈ news, u.oneCell' = true)
    (h63 : n + m ≤ maxLen) (hby : (n + m) * bytes ≤ 140737488355328)
    (h : ∀ A' c', K' (.slice A' (n + m) c') (B0 :: B1 :: B2 :: B3 :: OwnA e sz A' (n + m) c' (xs ++ news) :: R)) :
    OpV C ⟨dst, .call { callee := .builtin .append, args := #[x, y], argTypes := #[T, T] }, ty, pos, after, guard⟩ env (B0 :: B1 :: B2 :: B3 :: OwnA e sz A n c xs :: R) K' := OpV.appendG (L1 := [B0, B1, B2, B3]) ht he hx hy hs hl h1 h63 hby h
theorem OpV.next4 {B0 B1 B2 B3 : Assn} {R : List Assn} {it m clock : Nat} {es : Array MapEntry} {ds : List MapEntry} (hx : env.ev x = .pointer (some ⟨it, 0, none⟩)) (h : Has C (B0 :: B1 :: B2 :: B3 :: IterA it m clock ds :: R) (IsObj m (.map es clock))) (hc : ∀ e ∈ es.toList, e.born < clock)
    (h0 : (∀ e ∈ es.toList, e.born ∈ ds.map (·.born)) → K' (.tuple #[.bool false]) (B0 :: B1 :: B2 :: B3 :: IterA it m clock ds :: R))
    (h1 : ∀ e ∈ es.toList, e.born ∉ ds.map (·.born) → K' (.tuple #[.bool true, e.key, e.val]) (B0 :: B1 :: B2 :: B3 :: IterA it m clock (ds ++ [e]) :: R)) :
    OpV C ⟨dst, .next x false, ty, pos, after, guard⟩ env (B0 :: B1 :: B2 :: B3 :: IterA it m clock ds :: R) K' := OpV.nextG (L1 := [B0, B1, B2, B3]) hx h hc h0 h1

theorem OpV.mapUpd5 {B0 B1 B2 B3 B4 : Assn} {R : List Assn} (ht : C.P.underlying T = some (.map K E)) (law : KeyLaw C.P K enc) (hx : env.ev x = .map (some b)) (hy : env.ev y = enc k) (hz : env.ev z = encv a)
    (h : K' undef (B0 :: B1 :: B2 :: B3 :: B4 :: MapA b enc encv (updR k a ms) :: R)) : OpV C ⟨dst, .mapUpdate T x y z, ty, pos, after, guard⟩ env (B0 :: B1 :: B2 :: B3 :: B4 :: MapA b enc encv ms :: R) K' := OpV.mapUpdateG (L1 := [B0, B1, B2, B3, B4]) ht law hx hy hz h
theorem OpV.mapDel5 {B0 B1 B2 B3 B4 : Assn} {R : List Assn} {tys : Array TypeId} (htys : tys[0]? = some T) (ht : C.P.underlying T = some (.map K E)) (law : KeyLaw C.P K enc) (hx : env.ev x = .map (some b)) (hy : env.ev y = enc k)
    (h : K' (.tuple #[]) (B0 :: B1 :: B2 :: B3 :: B4 :: MapA b enc encv (delR k ms) :: R)) : OpV C ⟨dst, .call { callee := .builtin .delete, args := #[x, y], argTypes := tys }, ty, pos, after, guard⟩ env (B0 :: B1 :: B2 :: B3 :: B4 :: MapA b enc encv ms :: R) K' := OpV.deleteG (L1 := [B0, B1, B2, B3, B4]) htys ht law hx hy h
theorem OpV.app5 {B0 B1 B2 B3 B4 : Assn} {R : List Assn} {A B : Option Addr} {n c m c' sz bytes : Nat} {xs news : List Value} (ht : C.P.underlying T = some (.slice e)) (he : elemT C.P e sz bytes)
    (hx : env.ev x = .slice A n c) (hy : env.ev y = .slice B m c') (hs : Has C (B0 :: B1 :: B2 :: B3 :: B4 :: OwnA e sz A n c xs :: R) (SlA B news)) (hl : news.length = m * sz) (h1 : ∀ u ∈ news, u.oneCell' = true)
    (h63 : n + m ≤ maxLen) (hby : (n + m) * bytes ≤ 140737488355328)
    (h : ∀ A' c', K' (.slice A' (n + m) c') (B0 :: B1 :: B2 :: B3 :: B4 :: OwnA e sz A' (n + m) c' (xs ++ news) :: R)) :
    OpV C ⟨dst, .call { callee := .builtin .append, args := #[x, y], argTypes := #[T, T] }, ty, pos, after, guard⟩ env (B0 :: B1 :: B2 :: B3 :: B4 :: OwnA e sz A n c xs :: R) K' := OpV.appendG (L1 := [B0, B1, B2, B3, B4]) ht he hx hy hs hl h1 h63 hby h
theorem OpV.next5 {B0 B1 B2 B3 B4 : Assn} {R : List Assn} {it m clock : Nat} {es : Array MapEntry} {ds : List MapEntry} (hx : env.ev x = .pointer (some ⟨it, 0, none⟩)) (h : Has C (B0 :: B1 :: B2 :: B3 :: B4 :: IterA it m clock ds :: R) (IsObj m (.map es clock))) (hc : ∀ e ∈ es.toList, e.born < clock)
    (h0 : (∀ e ∈ es.toList, e.born ∈ ds.map (·.born)) → K' (.tuple #[.bool false]) (B0 :: B1 :: B2 :: B3 :: B4 :: IterA it m clock ds :: R))
    (h1 : ∀ e ∈ es.toList, e.born ∉ ds.map (·.born) → K' (.tuple #[.bool true, e.key, e.val]) (B0 :: B1 :: B2 :: B3 :: B4 :: IterA it m clock (ds ++ [e]) :: R)) :
    OpV C ⟨dst, .next x false, ty, pos, after, guard⟩ env (B0 :: B1 :: B2 :: B3 :: B4 :: IterA it m clock ds :: R) K' := OpV.nextG (L1 := [B0, B1, B2, B3, B4]) hx h hc h0 h1

theorem OpV.mapUpd6 {B0 B1 B2 B3 B4 B5 : Assn} {R : List Assn} (ht : C.P.underlying T = some (.map K E)) (law : KeyLaw C.P K enc) (hx : env.ev x = .map (some b)) (hy : env.ev y = enc k) (hz : env.ev z = encv a)
    (h : K' undef (B0 :: B1 :: B2 :: B3 :: B4 :: B5 :: MapA b enc encv (updR k a ms) :: R)) : OpV C ⟨dst, .mapUpdate T x y z, ty, pos, after, guard⟩ env (B0 :: B1 :: B2 :: B3 :: B4 :: B5 :: MapA b enc encv ms :: R) K' := OpV.mapUpdateG (L1 := [B0, B1, B2, B3, B4, B5]) ht law hx hy hz h
theorem OpV.mapDel6 {B0 B1 B2 B3 B4 B5 : Assn} {R : List Assn} {tys : Array TypeId} (htys : tys[0]? = some T) (ht : C.P.underlying T = some (.map K E)) (law : KeyLaw C.P K enc) (hx : env.ev x = .map (some b)) (hy : env.ev y = enc k)
    (h : K' (.tuple #[]) (B0 :: B1 :: B2 :: B3 :: B4 :: B5 :: MapA b enc encv (delR k ms) :: R)) : OpV C ⟨dst, .call { callee := .builtin .delete, args := #[x, y], argTypes := tys }, ty, pos, after, guard⟩ env (B0 :: B1 :: B2 :: B3 :: B4 :: B5 :: MapA b enc encv ms :: R) K' := OpV.deleteG (L1 := [B0, B1, B2, B3, B4, B5]) htys ht law hx hy h
theorem OpV.app6 {B0 B1 B2 B3 B4 B5 : Assn} {R : List Assn} {A B : Option Addr} {n c m c' sz bytes : Nat} {xs news : List Value} (ht : C.P.underlying T = some (.slice e)) (he : elemT C.P e sz bytes)
    (hx : env.ev x = .slice A n c) (hy : env.ev y = .slice B m c') (hs : Has C (B0 :: B1 :: B2 :: B3 :: B4 :: B5 :: OwnA e sz A n c xs :: R) (SlA B news)) (hl : news.length = m * sz) (h1 : ∀ u ∈ news, u.oneCell' = true)
    (h63 : n + m ≤ maxLen) (hby : (n + m) * bytes ≤ 140737488355328)
    (h : ∀ A' c', K' (.slice A' (n + m) c') (B0 :: B1 :: B2 :: B3 :: B4 :: B5 :: OwnA e sz A' (n + m) c' (xs ++ news) :: R)) :
    OpV C ⟨dst, .call { callee := .builtin .append, args := #[x, y], argTypes := #[T, T] }, ty, pos, after, guard⟩ env (B0 :: B1 :: B2 :: B3 :: B4 :: B5 :: OwnA e sz A n c xs :: R) K' := OpV.appendG (L1 := [B0, B1, B2, B3, B4, B5]) ht he hx hy hs hl h1 h63 hby h
theorem OpV.next6 {B0 B1 B2 B3 B4 B5 : Assn} {R : List Assn} {it m clock : Nat} {es : Array MapEntry} {ds : List MapEntry} (hx : env.ev x = .pointer (some ⟨it, 0, none⟩)) (h : Has C (B0 :: B1 :: B2 :: B3 :: B4 :: B5 :: IterA it m clock ds :: R) (IsObj m (.map es clock))) (hc : ∀ e ∈ es.toList, e.born < clock)
    (h0 : (∀ e ∈ es.toList, e.born ∈ ds.map (·.born)) → K' (.tuple #[.bool false]) (B0 :: B1 :: B2 :: B3 :: B4 :: B5 :: IterA it m clock ds :: R))
    (h1 : ∀ e ∈ es.toList, e.born ∉ ds.map (·.born) → K' (.tuple #[.bool true, e.key, e.val]) (B0 :: B1 :: B2 :: B3 :: B4 :: B5 :: IterA it m clock (ds ++ [e]) :: R)) :
    OpV C ⟨dst, .next x false, ty, pos, after, guard⟩ env (B0 :: B1 :: B2 :: B3 :: B4 :: B5 :: IterA it m clock ds :: R) K' := OpV.nextG (L1 := [B0, B1, B2, B3, B4, B5]) hx h hc h0 h1


/-! ### hashes and blocks: 32 bytes -/
def H32 := { l : List UInt8 // l.length = 32 }
instance : DecidableEq H32 := fun a b => decidable_of_iff (a.1 = b.1) ⟨Subtype.ext, fun h => h ▸ rfl⟩
def bytesL (l : List UInt8) : List Value := l.map fun b => .int .u8 (b.toNat : Int)
def hvl (h : H32) : List Value := bytesL h.1
def hv (h : H32) : Value := .agg (hvl h).toArray
theorem bytesL_length (l : List UInt8) : (bytesL l).length = l.length := by simp [bytesL]
theorem hvl_length (h : H32) : (hvl h).length = 32 := by rw [hvl, bytesL_length]; exact h.2
theorem vl_hv (h : H32) : vl (hv h) = hvl h := by simp [hv, vl]
theorem bytesL_one (l : List UInt8) : ∀ u ∈ bytesL l, u.oneCell' = true := by
  intro u hu
  obtain ⟨b, _, rfl⟩ := List.mem_map.1 hu
  rfl
theorem hvl_one (h : H32) : (hvl h).all (·.oneCell') = true := List.all_eq_true.2 (bytesL_one h.1)
theorem bytesL_inj {a b : List UInt8} (h : bytesL a = bytesL b) : a = b := by
  induction a generalizing b with
  | nil => cases b with
    | nil => rfl
    | cons y b => simp [bytesL] at h
  | cons x a ih => cases b with
    | nil => simp [bytesL] at h
    | cons y b =>
      simp only [bytesL, List.map_cons, List.cons.injEq] at h ih
      obtain ⟨h1, h2⟩ := h
      injection h1 with _ h1
      have hxy : x = y := UInt8.toNat_inj.1 (by omega)
      rw [hxy, ih h2]
theorem hv_inj {a b : H32} (h : hv a = hv b) : a = b := by
  injection h with h
  have h2 : hvl a = hvl b := by have := congrArg Array.toList h; simpa using this
  exact Subtype.ext (bytesL_inj h2)
def zeroH : H32 := ⟨List.replicate 32 0, by simp⟩
/-- The cells of a list of hashes. -/
def hcs (l : List H32) : List Value := l.flatMap hvl
theorem hcs_nil : hcs [] = [] := rfl
theorem hcs_cons (h : H32) (l : List H32) : hcs (h :: l) = hvl h ++ hcs l := rfl
theorem hcs_append (l m : List H32) : hcs (l ++ m) = hcs l ++ hcs m := by simp [hcs]
theorem hcs_length : ∀ l : List H32, (hcs l).length = l.length * 32
  | [] => rfl
  | h :: l => by rw [hcs_cons, List.length_append, hvl_length, hcs_length l, List.length_cons]; omega
theorem hcs_one (l : List H32) : ∀ u ∈ hcs l, u.oneCell' = true := by
  intro u hu
  obtain ⟨h, _, hu⟩ := List.mem_flatMap.1 hu
  exact bytesL_one h.1 u hu
theorem hcs_get : ∀ (l : List H32) (i : Nat) (h : H32), l[i]? = some h → ∀ j v, (hvl h)[j]? = some v → (hcs l)[i * 32 + j]? = some v
  | [], i, h, hi, _, _, _ => by simp at hi
  | a :: l, 0, h, hi, j, v, hv => by
    have : a = h := by simpa using hi
    subst this
    have hj : j < (hvl a).length := (List.getElem?_eq_some_iff.1 hv).1
    rw [Nat.zero_mul, Nat.zero_add, hcs_cons, List.getElem?_append_left hj]
    exact hv
  | a :: l, i + 1, h, hi, j, v, hv => by
    have hi' : l[i]? = some h := by simpa using hi
    have := hcs_get l i h hi' j v hv
    rw [hcs_cons, List.getElem?_append_right (by rw [hvl_length]; omega), hvl_length]
    rw [show (i + 1) * 32 + j - 32 = i * 32 + j by omega]
    exact this
theorem hcs_drop : ∀ (l : List H32) (k : Nat), (hcs l).drop (k * 32) = hcs (l.drop k)
  | l, 0 => by simp
  | [], k + 1 => by simp [hcs]
  | a :: l, k + 1 => by
    rw [List.drop_succ_cons, ← hcs_drop l k, hcs_cons, List.drop_append, List.drop_eq_nil_of_le (by rw [hvl_length]; omega), List.nil_append, hvl_length]
    congr 1; omega
theorem hcs_take : ∀ (l : List H32) (k : Nat), (hcs l).take (k * 32) = hcs (l.take k)
  | l, 0 => by simp [hcs]
  | [], k + 1 => by simp [hcs]
  | a :: l, k + 1 => by
    rw [List.take_succ_cons, hcs_cons, hcs_cons, ← hcs_take l k, List.take_append, hvl_length, List.take_of_length_le (by rw [hvl_length]; omega)]
    congr 2; omega
end Go.E