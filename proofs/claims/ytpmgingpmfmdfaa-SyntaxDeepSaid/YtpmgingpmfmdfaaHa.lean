/- Functions answered without their code. -/
import Derived.Test.YtpmgingpmfmdfaaAw
set_option linter.unusedVariables false
set_option linter.unusedSimpArgs false
namespace Go.Ev
noncomputable section
theorem hp68 (l b lp bp : Nat) (H : AH) (h1 : Nat.ble l 9223372036854775807 = true) (h2 : Nat.ble lp 9223372036854775807 = true) (n : Nat) :
    evF env0 100000 (n + 1) p68 [.str l b, .str lp bp] H = .ok (.bool (hasP l b lp bp)) H := by
  show cLeave _ a68 (a68.body (evF env0 100000 n) 100000 _ [] H) = _
  cases hc : Nat.ble (Nat.succ l) lp with
  | false =>
    simp only [a68, cSeq, w2, W0, fStrlen_s h1, fStrlen_s h2, fInt_geq, hc, bnot, jn_t, jn_f, jn_u, pick_t, pick_f, fStr_eql, cRet, fSubstr_n (ble_of_not hc)]
    rw [hasP_long hc]
    rfl
  | true =>
    simp only [a68, cSeq, w2, W0, fStrlen_s h1, fStrlen_s h2, fInt_geq, hc, bnot, jn_t, jn_f, jn_u, pick_t, pick_f, fStr_eql, cRet]
    rw [hasP_short hc]
    rfl
theorem hp57 (l b lp bp : Nat) (H : AH) (h1 : Nat.ble l 9223372036854775807 = true) (h2 : Nat.ble lp 9223372036854775807 = true) (n : Nat) :
    evF env0 100000 (n + 2) p57 [.str l b, .str lp bp] H = .ok (.bool (hasP l b lp bp)) H := by
  show cLeave _ a57 (a57.body (evF env0 100000 (n + 1)) 100000 _ [] H) = _
  have e : ∀ k : KV, fCall p68 [.str l b, .str lp bp] (evF env0 100000 (n + 1)) H k = k (.bool (hasP l b lp bp)) H := fun k => by
    show kc k (evF env0 100000 (n + 1) p68 _ H) = _
    rw [hp68 l b lp bp H h1 h2]; rfl
  simp only [a57, cSeq, w0, W0, cRet, e]
  rfl
theorem has57_ok : PrimOk Go.Proofs.Try.prog p57 pHasP := prim_of_run (evF_ok follows env0_ok 2) fun vs v hv H => by
  obtain ⟨l, b, lp, bp, rfl, rfl, h1, h2⟩ := pHasP_some hv
  exact hp57 l b lp bp H h1 h2 0
theorem has68_ok : PrimOk Go.Proofs.Try.prog p68 pHasP := prim_of_run (evF_ok follows env0_ok 1) fun vs v hv H => by
  obtain ⟨l, b, lp, bp, rfl, rfl, h1, h2⟩ := pHasP_some hv
  exact hp68 l b lp bp H h1 h2 0
end
end Go.Ev
