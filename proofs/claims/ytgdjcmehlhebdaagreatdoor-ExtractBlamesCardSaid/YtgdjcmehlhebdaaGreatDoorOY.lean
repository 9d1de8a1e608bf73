/- Shorter forms of the commonest steps. -/
import Derived.Test.YtgdjcmehlhebdaaGreatDoorE1
set_option maxHeartbeats 25600000
namespace Go.E
section short
variable {C : Ctx} {Q : EQ} {env : Env} {L : List Assn} {ops : Array Oper} {rest : List Oper} {d : Nat} {op : Op} {ty : TypeId} {pos : String} {after : Array Edge} {v : Value} {gd : Nat × Bool} {x : Operand} {E : List Nat × List Nat} {F : List Assn} {dn : List Nat}
theorem S.mv (k : TL C ops Q rest (env.put d v) L) (hx : env.ev x = v := by conv => lhs; whnf) (hd : Nat.blt d C.n = true := by exact rfl) (hnd : zap ⟨some d, .move x, ty, pos, after, none⟩ = false := by exact rfl) : TL C ops Q (⟨some d, .move x, ty, pos, after, none⟩ :: rest) env L := S.q hd hnd (Qt.move hx) k
theorem S.as (k : TL C ops Q rest (env.put d v) L) (hx : env.ev x = v := by conv => lhs; whnf) (hd : Nat.blt d C.n = true := by exact rfl) (hnd : zap ⟨some d, .assign x, ty, pos, after, none⟩ = false := by exact rfl) : TL C ops Q (⟨some d, .assign x, ty, pos, after, none⟩ :: rest) env L := S.q hd hnd (Qt.assign hx) k
theorem D.qY (k : Nat) (ho : ops[k]? = some ⟨some d, op, ty, pos, after, none⟩) (hy : Qt C L ⟨some d, op, ty, pos, after, none⟩ env v) (h : AWl C ops Q E F (k :: dn) (env.put d v) L)
  (hk : (zbs ops dn k && zaR ops ⟨some d, op, ty, pos, after, none⟩) = true := by kernel_rfl) (hsel : zaS ops = true := by kernel_rfl) (hc : zem ops E dn k = true := by kernel_rfl) (hd : Nat.blt d C.n = true := by exact rfl) (hnd : zap ⟨some d, op, ty, pos, after, none⟩ = false := by exact rfl)
  (hE : has E.1 k = false ∧ has E.2 k = false := by exact ⟨rfl, rfl⟩) : AWl C ops Q E F dn env L := D.qX ho hk hsel hc hd hnd hy h hE
theorem S.r (h : Qt C L ⟨some d, op, ty, pos, after, none⟩ env v) (k : TL C ops Q rest (env.put d v) L) (hd : Nat.blt d C.n = true := by exact rfl) (hnd : zap ⟨some d, op, ty, pos, after, none⟩ = false := by exact rfl) : TL C ops Q (⟨some d, op, ty, pos, after, none⟩ :: rest) env L := S.q hd hnd h k
theorem S.o (h : OpV C ⟨some d, op, ty, pos, after, none⟩ env L fun v L' => TL C ops Q rest (env.put d v) L') (hd : Nat.blt d C.n = true := by exact rfl) (hnd : zap ⟨some d, op, ty, pos, after, none⟩ = false := by exact rfl) : TL C ops Q (⟨some d, op, ty, pos, after, none⟩ :: rest) env L := S.opS hd hnd h
theorem S.e {i : Nat} (h : Qt C L ⟨some d, .extract x i, ty, pos, after, none⟩ env v) (k : TL C ops Q rest (env.put d v) L) (hd : Nat.blt d C.n = true := by exact rfl) (hnd : zap ⟨some d, .extract x i, ty, pos, after, none⟩ = false := by exact rfl) : TL C ops Q (⟨some d, .extract x i, ty, pos, after, none⟩ :: rest) env L := S.q hd hnd h k
theorem D.p (k : Nat) (ho : ops[k]? = some ⟨some d, op, ty, pos, after, none⟩) (hy : Qt C F ⟨some d, op, ty, pos, after, none⟩ env v) (h : AWl C ops Q E F (k :: dn) (env.put d v) L)
  (hk : (zbs ops dn k && zaR ops ⟨some d, op, ty, pos, after, none⟩) = true := by kernel_rfl) (hsel : zaS ops = true := by kernel_rfl) (hd : Nat.blt d C.n = true := by exact rfl) (hnd : zap ⟨some d, op, ty, pos, after, none⟩ = false := by exact rfl)
  (hE : has E.1 k = false ∧ has E.2 k = false := by exact ⟨rfl, rfl⟩) : AWl C ops Q E F dn env L := D.q ho hk hsel hd hnd hy h hE
theorem D.gY (k : Nat) (ho : ops[k]? = some ⟨some d, op, ty, pos, after, some gd⟩) (hw : zaF ops env ⟨some d, op, ty, pos, after, some gd⟩ = true) (hy : Qt C L ⟨some d, op, ty, pos, after, some gd⟩ env v) (h : AWl C ops Q E F (k :: dn) (env.put d v) L)
  (hk : (zbs ops dn k && zaR ops ⟨some d, op, ty, pos, after, some gd⟩) = true := by kernel_rfl) (hsel : zaS ops = true := by kernel_rfl) (hc : zem ops E dn k = true := by kernel_rfl) (hd : Nat.blt d C.n = true := by exact rfl) (hnd : zap ⟨some d, op, ty, pos, after, some gd⟩ = false := by exact rfl)
  (hE : has E.1 k = false ∧ has E.2 k = false := by exact ⟨rfl, rfl⟩) : AWl C ops Q E F dn env L := D.qgX ho hk hsel hc hd hnd hw hy h hE
theorem D.ps (k : Nat) (ho : ops[k]? = some ⟨some d, op, ty, pos, after, some gd⟩) (hw : zaF ops env ⟨some d, op, ty, pos, after, some gd⟩ = false) (h : AWl C ops Q E F (k :: dn) (env.put d undef) L)
  (hk : (zbs ops dn k && zaR ops ⟨some d, op, ty, pos, after, some gd⟩) = true := by kernel_rfl) (hsel : zaS ops = true := by kernel_rfl) (hd : Nat.blt d C.n = true := by exact rfl) (hnd : zap ⟨some d, op, ty, pos, after, some gd⟩ = false := by exact rfl) : AWl C ops Q E F dn env L := D.pass ho hk hsel hd hnd hw h
theorem fin1 {t : Nat} {φ : Value → List Assn → Prop} {L' : List Assn} (hs : Sub L' L) (hφ : φ (pack [v]) L') (ht : env t = v := by conv => lhs; whnf) (hd : env.ds = [] := by rfl) : finQ C [.tmp t] φ .ret env L := finQ.ret (RVs.tmp ht RVs.nil) hs hφ hd
theorem rv {rs : List ResultVar} {vs : List Value} (h : RVs C env L rs vs := by repeat (first | with_reducible exact RVs.nil | ((with_reducible apply RVs.tmp); (conv => lhs; whnf)))) : RVs C env L rs vs := h
theorem fR {rs : List ResultVar} {vs : List Value} {φ : Value → List Assn → Prop} (hφ : φ (pack vs) []) (hr : RVs C env L rs vs := by repeat (first | with_reducible exact RVs.nil | ((with_reducible apply RVs.tmp); (conv => lhs; whnf)))) (hd : env.ds = [] := by rfl) : finQ C rs φ .ret env L := finQ.ret hr (Sub.nil _) hφ hd
theorem cw {α : Type} {a b : α} (h : a = b := by conv => lhs; whnf) : a = b := h
theorem km {p : Prop} (h : p := by simp only [kmax]; omega) : p := h
theorem hz0 {A : Assn} {L : List Assn} : Has C (A :: L) A := Has.at 0 rfl
theorem hz1 {A B : Assn} {L : List Assn} : Has C (B :: A :: L) A := Has.at 1 rfl
theorem hz2 {A B D : Assn} {L : List Assn} : Has C (B :: D :: A :: L) A := Has.at 2 rfl
theorem hz3 {A B D E : Assn} {L : List Assn} : Has C (B :: D :: E :: A :: L) A := Has.at 3 rfl
end short
section many
variable {C : Ctx} {Q : EQ} {env : Env} {L : List Assn} {ops : Array Oper} {rest : List Oper} {d : Nat} {op : Op} {ty : TypeId} {pos : String} {after : Array Edge} {v : Value} {gd : Nat × Bool} {x : Operand}
theorem S.mv0 (hx : env.ev x = v) (hd : Nat.blt d C.n = true) (hnd : zap ⟨some d, .move x, ty, pos, after, none⟩ = false) (k : TL C ops Q rest (env.put d v) L) : TL C ops Q (⟨some d, .move x, ty, pos, after, none⟩ :: rest) env L := S.q hd hnd (Qt.move hx) k
theorem S.as0 (hx : env.ev x = v) (hd : Nat.blt d C.n = true) (hnd : zap ⟨some d, .assign x, ty, pos, after, none⟩ = false) (k : TL C ops Q rest (env.put d v) L) : TL C ops Q (⟨some d, .assign x, ty, pos, after, none⟩ :: rest) env L := S.q hd hnd (Qt.assign hx) k
theorem S.e0 {i : Nat} (h : Qt C L ⟨some d, .extract x i, ty, pos, after, none⟩ env v) (hd : Nat.blt d C.n = true) (hnd : zap ⟨some d, .extract x i, ty, pos, after, none⟩ = false) (k : TL C ops Q rest (env.put d v) L) : TL C ops Q (⟨some d, .extract x i, ty, pos, after, none⟩ :: rest) env L := S.q hd hnd h k
theorem S.n0 {y : Code} (h : TC C y Q env L) : TL C ops (zr6 C y Q) [] env L := S.nil h
theorem S.sk0 {y : Code} (h : TC C y Q env L) : TC C .skip (zr6 C y Q) env L := TC.skip h
theorem S.pt0 {y z : Operand} (hc : env.ev x = .bool true) (hy : env.ev y = v) (hd : Nat.blt d C.n = true) (hnd : zap ⟨some d, .pick x y z, ty, pos, after, none⟩ = false) (k : TL C ops Q rest (env.put d v) L) : TL C ops Q (⟨some d, .pick x y z, ty, pos, after, none⟩ :: rest) env L := S.q hd hnd (Qt.pick_t hc hy) k
theorem S.pf0 {y z : Operand} (hc : env.ev x = .bool false) (hy : env.ev z = v) (hd : Nat.blt d C.n = true) (hnd : zap ⟨some d, .pick x y z, ty, pos, after, none⟩ = false) (k : TL C ops Q rest (env.put d v) L) : TL C ops Q (⟨some d, .pick x y z, ty, pos, after, none⟩ :: rest) env L := S.q hd hnd (Qt.pick_f hc hy) k
def zlE (P : Program) (t : TypeId) : Bool := match P.underlying t with | some (.slice _) => true | _ => false
theorem S.ln0 {t : TypeId} {A : OAd} {n c : Nat} (hx : env.ev x = .slice A n c) (ht : zlE C.P t = true) (hd : Nat.blt d C.n = true) (hnd : zap ⟨some d, .call { callee := .builtin .len, args := #[x], argTypes := #[t] }, ty, pos, after, none⟩ = false) (k : TL C ops Q rest (env.put d (.int .i64 (n : Int))) L) : TL C ops Q (⟨some d, .call { callee := .builtin .len, args := #[x], argTypes := #[t] }, ty, pos, after, none⟩ :: rest) env L := by
 unfold zlE at ht
 split at ht
 ·rename_i e he; exact S.q hd hnd (Qt.len_slice he hx) k
 ·cases ht
theorem go {R G : Prop} (k : R) (h : R → G := by intro h; (repeat first | ((with_reducible apply S.mv0); (conv => lhs; whnf); exact rfl; exact rfl) | ((with_reducible apply S.as0); (conv => lhs; whnf); exact rfl; exact rfl) | with_reducible refine S.n0 ?_ | with_reducible refine TC.seq ?_ | with_reducible refine TC.region ?_ | with_reducible refine S.nil ?_ | ((with_reducible apply S.e0); exact Qt.extract rfl rfl; exact rfl; exact rfl) | ((with_reducible refine S.pass ?_ ?_ ?_); exact rfl; exact rfl) | ((with_reducible apply S.pt0); exact rfl; (conv => lhs; whnf); exact rfl; exact rfl) | ((with_reducible apply S.pf0); exact rfl; (conv => lhs; whnf); exact rfl; exact rfl) | ((with_reducible apply S.ln0); exact rfl; kernel_rfl; exact rfl; exact rfl) | with_reducible refine TC.block ?_ | with_reducible refine S.sk0 ?_ | with_reducible refine TC.skip ?_ | ((with_reducible refine S.if_t ?_ ?_); exact rfl) | ((with_reducible refine S.if_f ?_ ?_); exact rfl)); exact h) : G := h k
end many
end Go.E
