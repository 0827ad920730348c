/- What is fixed is so; the functions answered without their code. -/
import Derived.Test.YtpmgingpmfmdfaaFn
namespace Go.Ev
noncomputable section
def prim0 (f : P) (vs : List AV) : Option AV := bif P.beq f p44 then pIx vs else none
theorem prim0_ok : PrimOk Go.Proofs.Try.prog prim0 := by
  intro f vs v h base μ w xs H hR hvs
  unfold prim0 at h
  cases hb : P.beq f p44 with
  | false => rw [hb] at h; cases h
  | true =>
    rw [hb, cond_true] at h
    have := (P.beq_eq _ _).1 hb
    subst this
    exact pIx_ok (f := p44) Go.Proofs.Try.func44 (by kernel_rfl) (by kernel_rfl) (by kernel_rfl) (by kernel_rfl) h hR hvs
theorem aw : isTrue (evF env1 prim0 100000 100 p11 [] emptyH) = true := by kernel_rfl
theorem follows : Go.Proofs.Try.prog.follows .mixedOrders = true := by kernel_rfl
def prim1 (f : P) (vs : List AV) : Option AV := bif P.beq f p44 then pIx vs else bif P.beq f p11 then (List.rec (motive := fun _ => Option AV) (some (.bool true)) (fun _ _ _ => none) vs) else none
theorem prim1_ok : PrimOk Go.Proofs.Try.prog prim1 := by
  intro f vs v h base μ w xs H hR hvs
  unfold prim1 at h
  cases hb : P.beq f p44 with
  | true =>
    rw [hb, cond_true] at h
    have := (P.beq_eq _ _).1 hb
    subst this
    exact pIx_ok (f := p44) Go.Proofs.Try.func44 (by kernel_rfl) (by kernel_rfl) (by kernel_rfl) (by kernel_rfl) h hR hvs
  | false =>
    rw [hb, cond_false] at h
    cases hb2 : P.beq f p11 with
    | false => rw [hb2] at h; cases h
    | true =>
      rw [hb2, cond_true] at h
      have := (P.beq_eq _ _).1 hb2
      subst this
      cases vs with
      | cons _ _ => cases h
      | nil =>
        cases h
        obtain ⟨H', hH⟩ := isTrue_spec aw
        exact closed_bool (evF_ok follows env1_ok prim0_ok 100) hH (fun _ _ h => by cases h; exact .nil) hR hvs
def vars (r q : Nat) (b : Bool) : Bool := isTrue (evF env1 prim1 100000 100 p3 [.msk2 .i64 255 12 r, .mask .i64 3 q, .bool b] emptyH)
end
end Go.Ev
