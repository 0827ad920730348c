/- The abstract machine: functions answered without their code; closed runs, and the calls that they show. -/
import Derived.Test.YtpmgingpmfmdfaaEc
import Derived.Lib.Bytealg
import Derived.Laws.StandIn
import Derived.WalkKit
import Derived.OpenShut
set_option linter.unusedVariables false
/- Functions answered without their code; a run that makes no memory of note. -/
namespace Go.Ev
noncomputable section
variable {Pr : Program}

/-! ### the place of a byte -/
def ixB (c : Nat) : Nat → Nat → Nat → Option Nat
  | 0, _, _ => none
  | n + 1, bits, i => bif Nat.beq (Nat.mod bits 256) c then some i else ixB c n (Nat.div bits 256) (Nat.succ i)
def ixV (o : Option Nat) : AV := match o with | some i => .int .i64 (.ofNat i) | none => .int .i64 (.negSucc 0)
def ixI (o : Option Nat) : Int := match o with | some i => .ofNat i | none => .negSucc 0
theorem ixV_eq (o : Option Nat) : ixV o = .int .i64 (ixI o) := by cases o <;> rfl
theorem ixB_eq {c : Nat} (hc : c < 256) : ∀ (l : List UInt8) (i : Nat), ixI (ixB c l.length (enc l) i) = if Go.Lib.indexByte l (UInt8.ofNat c) = -1 then -1 else Go.Lib.indexByte l (UInt8.ofNat c) + i
  | [], i => rfl
  | b :: l, i => by
    have hb : b.toNat < 256 := b.toNat_lt
    have e1 : Nat.mod (enc (b :: l)) 256 = b.toNat := by show (b.toNat + 256 * enc l) % 256 = _; omega
    have e2 : Nat.div (enc (b :: l)) 256 = enc l := by show (b.toNat + 256 * enc l) / 256 = _; omega
    have ih := ixB_eq hc l (i + 1)
    have hge := Go.Lib.indexByte_ge l (UInt8.ofNat c)
    have hu : ∀ h : b.toNat = c, b = UInt8.ofNat c := fun h => by rw [← h]; simp
    have hu' : ∀ h : b = UInt8.ofNat c, b.toNat = c := fun h => by rw [h]; simp; omega
    have hL : ∀ r : Int, Go.Lib.indexByte (b :: l) (UInt8.ofNat c) = r → ixI (ixB c (b :: l).length (enc (b :: l)) i) = (if r = -1 then -1 else r + i) → ixI (ixB c (b :: l).length (enc (b :: l)) i) = if Go.Lib.indexByte (b :: l) (UInt8.ofNat c) = -1 then -1 else Go.Lib.indexByte (b :: l) (UInt8.ofNat c) + i := fun r hr h => by rw [hr]; exact h
    have hx : ixB c (b :: l).length (enc (b :: l)) i = bif Nat.beq b.toNat c then some i else ixB c l.length (enc l) (i + 1) := by
      simp only [List.length_cons, ixB, e1, e2, Nat.succ_eq_add_one]
    by_cases h : b.toNat = c
    · have h' := hu h
      refine hL 0 (by unfold Go.Lib.indexByte; rw [h']; simp) ?_
      rw [hx, h, Nat.beq_refl c]
      simp [ixI]
    · have h' : ¬ b = UInt8.ofNat c := fun hh => h (hu' hh)
      have hbq : Nat.beq b.toNat c = false := by
        cases hq : Nat.beq b.toNat c with
        | false => rfl
        | true => exact absurd (Nat.eq_of_beq_eq_true hq) h
      have hbe : (b == UInt8.ofNat c) = false := by simpa using h'
      by_cases hm : Go.Lib.indexByte l (UInt8.ofNat c) = -1
      · refine hL (-1) (by unfold Go.Lib.indexByte; simp [hbe, hm]) ?_
        rw [hx, hbq, cond_false, ih, if_pos hm, if_pos rfl]
      · refine hL (Go.Lib.indexByte l (UInt8.ofNat c) + 1) (by conv => lhs; unfold Go.Lib.indexByte
                                                               simp [hbe, hm]) ?_
        rw [hx, hbq, cond_false, ih, if_neg hm, if_neg (by omega)]
        omega
theorem indexByte_le (c : UInt8) : ∀ l : List UInt8, Go.Lib.indexByte l c ≤ l.length
  | [] => by show (-1 : Int) ≤ 0; decide
  | b :: l => by
    have := indexByte_le c l
    have := Go.Lib.indexByte_ge l c
    unfold Go.Lib.indexByte
    split
    · simp; omega
    · split <;> simp <;> omega
def pIx (vs : List AV) : Option AV := match vs with
  | [.str l b, .int .u8 (.ofNat c)] => bif Nat.blt l 4611686018427387904 then some (ixV (ixB c l b 0)) else none
  | _ => none
theorem pIx_ok {f : P} {fn : Func} (hf : Pr.funcs[f.nat]? = some fn) (hname : (fn.name == "runtime.NumGoroutine") = false) (hb : fn.body.isNone = true) (hn : Extern.findNext fn = none) (he : Extern.find fn = some Extern.BytealgIndexByte.indexByte)
    {vs : List AV} {v : AV} (h : pIx vs = some v) {base : Nat} {μ : M} {w : World} {xs : List Value} {H : AH} (hR : Rel μ H w base) (hvs : VRels μ vs xs) : RunsTo Pr f.nat xs.toArray w (Post base μ w v H) := by
  unfold pIx at h
  split at h
  case h_2 => cases h
  rename_i l b c
  cases hlt : Nat.blt l 4611686018427387904 with
  | false => rw [hlt] at h; cases h
  | true =>
  rw [hlt, cond_true] at h
  have hl := natB hlt
  cases h
  cases hvs with
  | cons _ x _ xs' hx hxs =>
  cases hxs with
  | cons _ y _ ys hy hys =>
  cases hys
  cases hx with
  | str s =>
  cases hy with
  | int _ _ hr =>
  have hc : c < 256 := by
    have := hr.2
    have : (Int.ofNat c) ≤ 255 := this
    have : ((c : Nat) : Int) ≤ 255 := this
    omega
  refine .inr ⟨.int .i64 (Go.Lib.indexByte s.data.toList (Int.ofNat c).toNat.toUInt8), w, ?_, μ, Ext.refl μ, hR, Fr.refl base w, ?_⟩
  · rw [run_callFunc_indexByte hf hname hb hn he]
    have : [Value.string s, Value.int .u8 (Int.ofNat c)].toArray = #[.string s, .int .u8 (Int.ofNat c)] := rfl
    rw [this, Go.Lib.run_indexByteString]
    rfl
  · have hcu : (Int.ofNat c).toNat.toUInt8 = UInt8.ofNat c := rfl
    have hsz : s.size = s.data.toList.length := rfl
    rw [ixV_eq, hcu, hsz, ixB_eq hc]
    have hge := Go.Lib.indexByte_ge s.data.toList (UInt8.ofNat c)
    have hle := indexByte_le (UInt8.ofNat c) s.data.toList
    have e : (if Go.Lib.indexByte s.data.toList (UInt8.ofNat c) = -1 then (-1 : Int) else Go.Lib.indexByte s.data.toList (UInt8.ofNat c) + ((0 : Nat) : Int)) = Go.Lib.indexByte s.data.toList (UInt8.ofNat c) := by
      split
      · rename_i hh; rw [hh]
      · omega
    rw [e]
    refine .int _ _ ⟨?_, ?_⟩
    · show -(9223372036854775808 : Int) ≤ _
      omega
    · show _ ≤ (9223372036854775807 : Int)
      rw [hsz] at hl
      omega

/-! ### a closed run -/
def emptyH : AH := ⟨.h, .e⟩
theorem rel0 (w : World) : Rel (fun _ _ => none) emptyH w w.heap.size := ⟨Nat.le_refl _, fun _ _ _ h => (by cases h), fun _ _ _ _ _ _ h => (by cases h)⟩
theorem size_of_keep {w w' : World} (h : ∀ i, i < w.heap.size → w'.heap[i]? = w.heap[i]?) : w.heap.size ≤ w'.heap.size := by
  rcases Nat.eq_zero_or_pos w.heap.size with h0 | h0
  · omega
  · have := h (w.heap.size - 1) (by omega)
    rw [Array.getElem?_eq_getElem (by omega : w.heap.size - 1 < w.heap.size)] at this
    have := (Array.getElem?_eq_some_iff.1 this).1
    omega
/-- where a run from nothing answers a bool, so does the call anywhere, and leaves what is known as it was -/
theorem closed_bool {call : FT} (hcall : CallOk Pr call) {f : P} {vs : List AV} {b : Bool} {H' : AH} (he : call f vs emptyH = .ok (.bool b) H') (hvs : ∀ μ xs, VRels μ vs xs → VRels (fun _ _ => none) vs xs)
    {base : Nat} {μ : M} {w : World} {xs : List Value} {H : AH} (hR : Rel μ H w base) (hx : VRels μ vs xs) : RunsTo Pr f.nat xs.toArray w (Post base μ w (.bool b) H) := by
  have conv : ∀ x w', Post w.heap.size (fun _ _ => none) w (.bool b) H' x w' → Post base μ w (.bool b) H x w' := by
    rintro x w' ⟨μ', _, _, hF, hv⟩
    have hs := size_of_keep hF.heap
    refine ⟨μ, Ext.refl μ, hR.grown hs hF.heap, ⟨fun i hi => hF.heap i (Nat.lt_of_lt_of_le hi hR.le), hF.os, hF.output, hF.fz⟩, ?_⟩
    cases hv
    exact .bool b
  rcases hcall f vs emptyH _ _ he w.heap.size _ w xs (rel0 w) (hvs μ xs hx) with ⟨h1, h2⟩ | ⟨x, w', h1, h2⟩
  · exact .inl ⟨h1, Calls.mono h2 fun e w' ⟨x, hx, hp⟩ => ⟨x, hx, conv x w' hp⟩⟩
  · exact .inr ⟨x, w', h1, conv x w' h2⟩

/-! ### the functions of an environment -/
def AllFn (Q : P → Fn1 → Prop) : Tr Fn1 → Prop
  | .e => True
  | .n v l r => (match v with | none => True | some F => Q .h F) ∧ AllFn (fun p F => Q (.a p) F) l ∧ AllFn (fun p F => Q (.b p) F) r
theorem AllFn.at : ∀ {Q : P → Fn1 → Prop} {t : Tr Fn1}, AllFn Q t → ∀ {f : P} {F : Fn1}, t.at f = some F → Q f F
  | _, .e, _, f, F, h => by rw [Tr.at_e] at h; cases h
  | Q, .n v l r, ha, f, F, h => by
    cases f with
    | h =>
      have hv : v = some F := h
      subst hv
      exact ha.1
    | a p => exact ha.2.1.at (f := p) h
    | b p => exact ha.2.2.at (f := p) h
def isTrue (r : CR) : Bool := CR.rec (motive := fun _ => Bool) (fun v _ => match v with | .bool b => b | _ => false) (fun _ => false) r
theorem isTrue_spec : ∀ {r : CR}, isTrue r = true → ∃ H, r = .ok (.bool true) H
  | .ok (.bool true) H, _ => ⟨H, rfl⟩
  | .ok (.bool false) _, h => by cases h
  | .fail _, h => by cases h
  | .ok .undef _, h | .ok (.int _ _) _, h | .ok (.str _ _) _, h | .ok (.ptr ..) _, h | .ok .nilp _, h | .ok (.slice ..) _, h | .ok .nils _, h | .ok (.fn ..) _, h | .ok .nilFunc _, h | .ok (.iface ..) _, h | .ok .nilIface _, h
  | .ok (.agg _) _, h | .ok (.tuple _) _, h | .ok (.mask ..) _, h | .ok .anyb _, h | .ok (.msk2 ..) _, h | .ok (.md ..) _, h => by cases h
end
end Go.Ev
/- From a closed run of the abstract machine to the call that a law's frame asks for. -/
namespace Go.Ev
noncomputable section
variable {Pr : Program}

theorem and_mask (n : Int) (m : Nat) (hm : m < 9223372036854775808) : ∃ x : Nat, x ≤ m ∧ IntKind.i64.wrap ((BitVec.ofInt 64 n &&& BitVec.ofInt 64 (m : Int)).toNat : Int) = x ∧ InR .i64 x := by
  have h1 : (BitVec.ofInt 64 (m : Int)).toNat = m := by
    rw [BitVec.toNat_ofInt]
    omega
  have hle : (BitVec.ofInt 64 n &&& BitVec.ofInt 64 (m : Int)).toNat ≤ m := by
    rw [BitVec.toNat_and]
    exact Nat.le_trans Nat.and_le_right (by omega)
  have hin : InR .i64 ((BitVec.ofInt 64 n &&& BitVec.ofInt 64 (m : Int)).toNat : Int) := by
    constructor
    · show -(9223372036854775808 : Int) ≤ _
      omega
    · show _ ≤ (9223372036854775807 : Int)
      omega
  exact ⟨_, hle, wrap_in hin, hin⟩
/-- of a number only what a mask leaves is known -/
theorem mask_rel (μ : M) (n : Int) (m : Nat) (hm : m < 9223372036854775808) : ∃ r : Nat, r ≤ m ∧ VRel μ (.mask .i64 m r) (.int .i64 n) := by
  obtain ⟨x, h1, h2, h3⟩ := and_mask n m hm
  exact ⟨x, h1, .mask .i64 n m x h3 h2⟩
theorem msk2_rel (μ : M) (n : Int) (m d : Nat) (hm : m < 9223372036854775808) (hd : 0 < d) : ∃ r : Nat, r < d ∧ VRel μ (.msk2 .i64 m d r) (.int .i64 n) := by
  obtain ⟨x, h1, h2, h3⟩ := and_mask n m hm
  exact ⟨x % d, Nat.mod_lt _ hd, .msk2 .i64 n m d _ x h3 h2 hd rfl⟩

theorem grown_of_fr {w w' : World} (h : Fr w.heap.size w w') : RowKit.Grown w w' := by
  refine ⟨⟨h.os, h.output, fun i hi => ?_⟩, h.fz, size_of_keep h.heap⟩
  rw [h.heap i hi]
  have hk := (World.keptBut_refl w (fun _ => False)).2.2 i hi
  exact hk
theorem calls_of_runs {f : P} {fn : Func} (hf : Pr.funcs[f.nat]? = some fn) (hname : (fn.name == "runtime.NumGoroutine") = false) (hb : fn.body.isSome = true) {xs : Array Value} {w : World} {R : Value → World → Prop} (h : RunsTo Pr f.nat xs w R) :
    Calls Pr f.nat xs w fun e w' => ∃ x, e = .returned x ∧ R x w' := by
  rcases h with ⟨_, h⟩ | ⟨x, w', h, _⟩
  · exact h
  · have h1 : fn.name ≠ "runtime.NumGoroutine" := by simpa using hname
    obtain ⟨c, hc⟩ := Option.isSome_iff_exists.1 hb
    simp [callFunc, hf, h1, hc] at h
/-- a law's call, where the run from nothing answers true -/
theorem law_true {call : FT} (hcall : CallOk Pr call) {f : P} {fn : Func} (hf : Pr.funcs[f.nat]? = some fn) (hname : (fn.name == "runtime.NumGoroutine") = false) (hb : fn.body.isSome = true) {vs : List AV} (he : isTrue (call f vs emptyH) = true)
    {xs : List Value} {w : World} (hvs : VRels (fun _ _ => none) vs xs) : Calls Pr f.nat xs.toArray w fun e w' => e = .returned (.bool true) ∧ RowKit.Grown w w' := by
  obtain ⟨H', hH⟩ := isTrue_spec he
  refine Calls.mono (calls_of_runs hf hname hb (hcall f vs emptyH _ _ hH w.heap.size _ w xs (rel0 w) hvs)) fun e w' h => ?_
  obtain ⟨x, rfl, μ', _, _, hF, hv⟩ := h
  cases hv
  exact ⟨rfl, grown_of_fr hF⟩
end
end Go.Ev
