/- The abstract machine: functions answered without their code; closed runs, and the calls that they show; steps on values not known in full. -/
import Derived.Test.YtpmgingpmfmdfaaEc
import Derived.Lib.Bytealg
import Derived.Laws.StandIn
import Derived.WalkKit
import Derived.OpenShut
set_option linter.unusedVariables false
/- Functions answered without their code; a run that makes no memory of note. -/
namespace Go.Ev
noncomputable section
variable {Pr : Program}

/-! ### the place of a byte -/
def ixB (c n : Nat) : Nat → Nat → Option Nat :=
  Nat.rec (motive := fun _ => Nat → Nat → Option Nat) (fun _ _ => none) (fun _ ih bits i => Bool.rec (motive := fun _ => Option Nat) (ih (Nat.div bits 256) (Nat.succ i)) (some i) (Nat.beq (Nat.mod bits 256) c)) n
theorem ixB_succ (c n bits i : Nat) : ixB c (n + 1) bits i = bif Nat.beq (Nat.mod bits 256) c then some i else ixB c n (Nat.div bits 256) (Nat.succ i) := by
  show Bool.rec (motive := fun _ => Option Nat) (ixB c n (Nat.div bits 256) (Nat.succ i)) (some i) (Nat.beq (Nat.mod bits 256) c) = _
  cases Nat.beq (Nat.mod bits 256) c <;> rfl
def ixV (o : Option Nat) : AV := Option.rec (motive := fun _ => AV) (.int .i64 (.negSucc 0)) (fun i => .int .i64 (.ofNat i)) o
def ixI (o : Option Nat) : Int := match o with | some i => .ofNat i | none => .negSucc 0
theorem ixV_eq (o : Option Nat) : ixV o = .int .i64 (ixI o) := by cases o <;> rfl
theorem ixB_eq {c : Nat} (hc : c < 256) : ∀ (l : List UInt8) (i : Nat), ixI (ixB c l.length (enc l) i) = if Go.Lib.indexByte l (UInt8.ofNat c) = -1 then -1 else Go.Lib.indexByte l (UInt8.ofNat c) + i
  | [], i => rfl
  | b :: l, i => by
    have hb : b.toNat < 256 := b.toNat_lt
    have e1 : Nat.mod (enc (b :: l)) 256 = b.toNat := by show (b.toNat + 256 * enc l) % 256 = _; omega
    have e2 : Nat.div (enc (b :: l)) 256 = enc l := by show (b.toNat + 256 * enc l) / 256 = _; omega
    have ih := ixB_eq hc l (i + 1)
    have hge := Go.Lib.indexByte_ge l (UInt8.ofNat c)
    have hu : ∀ h : b.toNat = c, b = UInt8.ofNat c := fun h => by rw [← h]; simp
    have hu' : ∀ h : b = UInt8.ofNat c, b.toNat = c := fun h => by rw [h]; simp; omega
    have hL : ∀ r : Int, Go.Lib.indexByte (b :: l) (UInt8.ofNat c) = r → ixI (ixB c (b :: l).length (enc (b :: l)) i) = (if r = -1 then -1 else r + i) → ixI (ixB c (b :: l).length (enc (b :: l)) i) = if Go.Lib.indexByte (b :: l) (UInt8.ofNat c) = -1 then -1 else Go.Lib.indexByte (b :: l) (UInt8.ofNat c) + i := fun r hr h => by rw [hr]; exact h
    have hx : ixB c (b :: l).length (enc (b :: l)) i = bif Nat.beq b.toNat c then some i else ixB c l.length (enc l) (i + 1) := by
      rw [List.length_cons, ixB_succ, e1, e2]
    by_cases h : b.toNat = c
    · have h' := hu h
      refine hL 0 (by unfold Go.Lib.indexByte; rw [h']; simp) ?_
      rw [hx, h, Nat.beq_refl c]
      simp [ixI]
    · have h' : ¬ b = UInt8.ofNat c := fun hh => h (hu' hh)
      have hbq : Nat.beq b.toNat c = false := by
        cases hq : Nat.beq b.toNat c with
        | false => rfl
        | true => exact absurd (Nat.eq_of_beq_eq_true hq) h
      have hbe : (b == UInt8.ofNat c) = false := by simpa using h'
      by_cases hm : Go.Lib.indexByte l (UInt8.ofNat c) = -1
      · refine hL (-1) (by unfold Go.Lib.indexByte; simp [hbe, hm]) ?_
        rw [hx, hbq, cond_false, ih, if_pos hm, if_pos rfl]
      · refine hL (Go.Lib.indexByte l (UInt8.ofNat c) + 1) (by conv => lhs; unfold Go.Lib.indexByte
                                                               simp [hbe, hm]) ?_
        rw [hx, hbq, cond_false, ih, if_neg hm, if_neg (by omega)]
        omega
theorem indexByte_le (c : UInt8) : ∀ l : List UInt8, Go.Lib.indexByte l c ≤ l.length
  | [] => by show (-1 : Int) ≤ 0; decide
  | b :: l => by
    have := indexByte_le c l
    have := Go.Lib.indexByte_ge l c
    unfold Go.Lib.indexByte
    split
    · simp; omega
    · split <;> simp <;> omega
def pIx (vs : List AV) : Option AV := match vs with
  | [.str l b, .int .u8 (.ofNat c)] => bif Nat.blt l 4611686018427387904 then some (ixV (ixB c l b 0)) else none
  | _ => none
theorem pIx_ok {f : P} {fn : Func} (hf : Pr.funcs[f.nat]? = some fn) (hname : (fn.name == "runtime.NumGoroutine") = false) (hb : fn.body.isNone = true) (hn : Extern.findNext fn = none) (he : Extern.find fn = some Extern.BytealgIndexByte.indexByte)
    {vs : List AV} {v : AV} (h : pIx vs = some v) {base : Nat} {μ : M} {w : World} {xs : List Value} {H : AH} (hR : Rel μ H w base) (hvs : VRels μ vs xs) : RunsTo Pr f.nat xs.toArray w (Post base μ w v H) := by
  unfold pIx at h
  split at h
  case h_2 => cases h
  rename_i l b c
  cases hlt : Nat.blt l 4611686018427387904 with
  | false => rw [hlt] at h; cases h
  | true =>
  rw [hlt, cond_true] at h
  have hl := natB hlt
  cases h
  cases hvs with
  | cons _ x _ xs' hx hxs =>
  cases hxs with
  | cons _ y _ ys hy hys =>
  cases hys
  cases hx with
  | str s =>
  cases hy with
  | int _ _ hr =>
  have hc : c < 256 := by
    have := hr.2
    have : (Int.ofNat c) ≤ 255 := this
    have : ((c : Nat) : Int) ≤ 255 := this
    omega
  refine .inr ⟨.int .i64 (Go.Lib.indexByte s.data.toList (Int.ofNat c).toNat.toUInt8), w, ?_, μ, Ext.refl μ, hR, Fr.refl base w, ?_⟩
  · rw [run_callFunc_indexByte hf hname hb hn he]
    have : [Value.string s, Value.int .u8 (Int.ofNat c)].toArray = #[.string s, .int .u8 (Int.ofNat c)] := rfl
    rw [this, Go.Lib.run_indexByteString]
    rfl
  · have hcu : (Int.ofNat c).toNat.toUInt8 = UInt8.ofNat c := rfl
    have hsz : s.size = s.data.toList.length := rfl
    rw [ixV_eq, hcu, hsz, ixB_eq hc]
    have hge := Go.Lib.indexByte_ge s.data.toList (UInt8.ofNat c)
    have hle := indexByte_le (UInt8.ofNat c) s.data.toList
    have e : (if Go.Lib.indexByte s.data.toList (UInt8.ofNat c) = -1 then (-1 : Int) else Go.Lib.indexByte s.data.toList (UInt8.ofNat c) + ((0 : Nat) : Int)) = Go.Lib.indexByte s.data.toList (UInt8.ofNat c) := by
      split
      · rename_i hh; rw [hh]
      · omega
    rw [e]
    refine .int _ _ ⟨?_, ?_⟩
    · show -(9223372036854775808 : Int) ≤ _
      omega
    · show _ ≤ (9223372036854775807 : Int)
      rw [hsz] at hl
      omega

/-! ### a closed run -/
def emptyH : AH := ⟨⟨.d0, .d0, .d0, .d0⟩, Hp.e⟩
theorem rel0 (w : World) : Rel (fun _ _ => none) emptyH w w.heap.size := ⟨Nat.le_refl _, fun _ _ _ h => (by cases h), fun _ _ _ _ _ _ h => (by cases h)⟩
theorem size_of_keep {w w' : World} (h : ∀ i, i < w.heap.size → w'.heap[i]? = w.heap[i]?) : w.heap.size ≤ w'.heap.size := by
  rcases Nat.eq_zero_or_pos w.heap.size with h0 | h0
  · omega
  · have := h (w.heap.size - 1) (by omega)
    rw [Array.getElem?_eq_getElem (by omega : w.heap.size - 1 < w.heap.size)] at this
    have := (Array.getElem?_eq_some_iff.1 this).1
    omega
/-- where a run from nothing answers a bool, so does the call anywhere, and leaves what is known as it was -/
theorem closed_bool {call : FT} (hcall : CallOk Pr call) {f : P} {vs : List AV} {b : Bool} {H' : AH} (he : call f vs emptyH = .ok (.bool b) H') (hvs : ∀ μ xs, VRels μ vs xs → VRels (fun _ _ => none) vs xs)
    {base : Nat} {μ : M} {w : World} {xs : List Value} {H : AH} (hR : Rel μ H w base) (hx : VRels μ vs xs) : RunsTo Pr f.nat xs.toArray w (Post base μ w (.bool b) H) := by
  have conv : ∀ x w', Post w.heap.size (fun _ _ => none) w (.bool b) H' x w' → Post base μ w (.bool b) H x w' := by
    rintro x w' ⟨μ', _, _, hF, hv⟩
    have hs := size_of_keep hF.heap
    refine ⟨μ, Ext.refl μ, hR.grown hs hF.heap, ⟨fun i hi => hF.heap i (Nat.lt_of_lt_of_le hi hR.le), hF.os, hF.output, hF.fz⟩, ?_⟩
    cases hv
    exact .bool b
  rcases hcall f vs emptyH _ _ he w.heap.size _ w xs (rel0 w) (hvs μ xs hx) with ⟨h1, h2⟩ | ⟨x, w', h1, h2⟩
  · exact .inl ⟨h1, Calls.mono h2 fun e w' ⟨x, hx, hp⟩ => ⟨x, hx, conv x w' hp⟩⟩
  · exact .inr ⟨x, w', h1, conv x w' h2⟩

/-! ### the functions of an environment -/
structure All16 {α : Type} (Q : D → α → Prop) (t : N α) : Prop where
  q0 : Q .d0 t.c0
  q1 : Q .d1 t.c1
  q2 : Q .d2 t.c2
  q3 : Q .d3 t.c3
  q4 : Q .d4 t.c4
  q5 : Q .d5 t.c5
  q6 : Q .d6 t.c6
  q7 : Q .d7 t.c7
  q8 : Q .d8 t.c8
  q9 : Q .d9 t.c9
  q10 : Q .d10 t.c10
  q11 : Q .d11 t.c11
  q12 : Q .d12 t.c12
  q13 : Q .d13 t.c13
  q14 : Q .d14 t.c14
  q15 : Q .d15 t.c15
theorem All16.get {α : Type} {Q : D → α → Prop} {t : N α} (h : All16 Q t) (d : D) : Q d (N.get d t) := by
  cases d
  · exact h.q0
  · exact h.q1
  · exact h.q2
  · exact h.q3
  · exact h.q4
  · exact h.q5
  · exact h.q6
  · exact h.q7
  · exact h.q8
  · exact h.q9
  · exact h.q10
  · exact h.q11
  · exact h.q12
  · exact h.q13
  · exact h.q14
  · exact h.q15
def OkO (Pr : Program) (f : P) (o : Option Fe) : Prop := match o with | none => True | some e => FeOk Pr f e
theorem all_none1 (b c : D) : All16 (fun a o => OkO Pr ⟨a, b, c, .d0⟩ o) (N.all none) := ⟨trivial, trivial, trivial, trivial, trivial, trivial, trivial, trivial, trivial, trivial, trivial, trivial, trivial, trivial, trivial, trivial⟩
theorem all_none2 (c : D) : All16 (fun b t => All16 (fun a o => OkO Pr ⟨a, b, c, .d0⟩ o) t) (N.all (N.all none)) := ⟨all_none1 _ _, all_none1 _ _, all_none1 _ _, all_none1 _ _, all_none1 _ _, all_none1 _ _, all_none1 _ _, all_none1 _ _, all_none1 _ _, all_none1 _ _, all_none1 _ _, all_none1 _ _, all_none1 _ _, all_none1 _ _, all_none1 _ _, all_none1 _ _⟩
theorem envOk {env : Env} (h : All16 (fun c t2 => All16 (fun b t1 => All16 (fun a o => OkO Pr ⟨a, b, c, .d0⟩ o) t1) t2) env) : ∀ f e, env.at f = some e → FeOk Pr f e := by
  intro f e hf
  obtain ⟨a, b, c, d⟩ := f
  have hd : d = .d0 := by
    cases d <;> first | rfl | (exact absurd hf (by intro h; cases h))
  subst hd
  have hf : N.get a (N.get b (N.get (α := E2) c env)) = some e := hf
  have := ((h.get c).get b).get a
  rw [hf] at this
  exact this
def isTrue (r : CR) : Bool := CR.rec (motive := fun _ => Bool) (fun v _ => match v with | .bool b => b | _ => false) (fun _ => false) r
theorem isTrue_spec : ∀ {r : CR}, isTrue r = true → ∃ H, r = .ok (.bool true) H
  | .ok (.bool true) H, _ => ⟨H, rfl⟩
  | .ok (.bool false) _, h => by cases h
  | .fail _, h => by cases h
  | .ok .undef _, h | .ok (.int _ _) _, h | .ok (.str _ _) _, h | .ok (.ptr ..) _, h | .ok .nilp _, h | .ok (.slice ..) _, h | .ok .nils _, h | .ok (.fn ..) _, h | .ok .nilFunc _, h | .ok (.iface ..) _, h | .ok .nilIface _, h
  | .ok (.agg _) _, h | .ok (.tuple _) _, h | .ok (.mask ..) _, h | .ok .anyb _, h | .ok (.msk2 ..) _, h | .ok (.md ..) _, h | .ok .top _, h => by cases h
end
end Go.Ev
/- From a closed run of the abstract machine to the call that a law's frame asks for. -/
namespace Go.Ev
noncomputable section
variable {Pr : Program}

theorem and_mask (n : Int) (m : Nat) (hm : m < 9223372036854775808) : ∃ x : Nat, x ≤ m ∧ IntKind.i64.wrap ((BitVec.ofInt 64 n &&& BitVec.ofInt 64 (m : Int)).toNat : Int) = x ∧ InR .i64 x := by
  have h1 : (BitVec.ofInt 64 (m : Int)).toNat = m := by
    rw [BitVec.toNat_ofInt]
    omega
  have hle : (BitVec.ofInt 64 n &&& BitVec.ofInt 64 (m : Int)).toNat ≤ m := by
    rw [BitVec.toNat_and]
    exact Nat.le_trans Nat.and_le_right (by omega)
  have hin : InR .i64 ((BitVec.ofInt 64 n &&& BitVec.ofInt 64 (m : Int)).toNat : Int) := by
    constructor
    · show -(9223372036854775808 : Int) ≤ _
      omega
    · show _ ≤ (9223372036854775807 : Int)
      omega
  exact ⟨_, hle, wrap_in hin, hin⟩
/-- of a number only what a mask leaves is known -/
theorem mask_rel (μ : M) (n : Int) (m : Nat) (hm : m < 9223372036854775808) : ∃ r : Nat, r ≤ m ∧ VRel μ (.mask .i64 m r) (.int .i64 n) := by
  obtain ⟨x, h1, h2, h3⟩ := and_mask n m hm
  exact ⟨x, h1, .mask .i64 n m x h3 h2⟩
theorem msk2_rel (μ : M) (n : Int) (m d : Nat) (hm : m < 9223372036854775808) (hd : 0 < d) : ∃ r : Nat, r < d ∧ VRel μ (.msk2 .i64 m d r) (.int .i64 n) := by
  obtain ⟨x, h1, h2, h3⟩ := and_mask n m hm
  exact ⟨x % d, Nat.mod_lt _ hd, .msk2 .i64 n m d _ x h3 h2 hd rfl⟩

theorem grown_of_fr {w w' : World} (h : Fr w.heap.size w w') : RowKit.Grown w w' := by
  refine ⟨⟨h.os, h.output, fun i hi => ?_⟩, h.fz, size_of_keep h.heap⟩
  rw [h.heap i hi]
  have hk := (World.keptBut_refl w (fun _ => False)).2.2 i hi
  exact hk
theorem calls_of_runs {f : P} {fn : Func} (hf : Pr.funcs[f.nat]? = some fn) (hname : (fn.name == "runtime.NumGoroutine") = false) (hb : fn.body.isSome = true) {xs : Array Value} {w : World} {R : Value → World → Prop} (h : RunsTo Pr f.nat xs w R) :
    Calls Pr f.nat xs w fun e w' => ∃ x, e = .returned x ∧ R x w' := by
  rcases h with ⟨_, h⟩ | ⟨x, w', h, _⟩
  · exact h
  · have h1 : fn.name ≠ "runtime.NumGoroutine" := by simpa using hname
    obtain ⟨c, hc⟩ := Option.isSome_iff_exists.1 hb
    simp [callFunc, hf, h1, hc] at h
/-- a law's call, where the run from nothing answers true -/
theorem law_true {call : FT} (hcall : CallOk Pr call) {f : P} {fn : Func} (hf : Pr.funcs[f.nat]? = some fn) (hname : (fn.name == "runtime.NumGoroutine") = false) (hb : fn.body.isSome = true) {vs : List AV} (he : isTrue (call f vs emptyH) = true)
    {xs : List Value} {w : World} (hvs : VRels (fun _ _ => none) vs xs) : Calls Pr f.nat xs.toArray w fun e w' => e = .returned (.bool true) ∧ RowKit.Grown w w' := by
  obtain ⟨H', hH⟩ := isTrue_spec he
  refine Calls.mono (calls_of_runs hf hname hb (hcall f vs emptyH _ _ hH w.heap.size _ w xs (rel0 w) hvs)) fun e w' h => ?_
  obtain ⟨x, rfl, μ', _, _, hF, hv⟩ := h
  cases hv
  exact ⟨rfl, grown_of_fr hF⟩
end
end Go.Ev
/- Steps of the abstract machine on values that are not known in full. -/
namespace Go.Ev
noncomputable section
theorem cSeq_nrm {a b : KC} {call : FT} {lim : Nat} {T T1 : Fm} {D D1 : List Dfr} {H H1 : AH} (h : a call lim T D H = .nrm T1 D1 H1) : cSeq a b call lim T D H = b call lim T1 D1 H1 := by
  show Out.rec (motive := fun _ => Out) (b call lim) .ext .ret .fail (a call lim T D H) = _
  rw [h]
theorem cSeq_ret {a b : KC} {call : FT} {lim : Nat} {T T1 : Fm} {D D1 : List Dfr} {H H1 : AH} (h : a call lim T D H = .ret T1 D1 H1) : cSeq a b call lim T D H = .ret T1 D1 H1 := by
  show Out.rec (motive := fun _ => Out) (b call lim) .ext .ret .fail (a call lim T D H) = _
  rw [h]
theorem cSeq_ext {a b : KC} {call : FT} {lim i : Nat} {T T1 : Fm} {D D1 : List Dfr} {H H1 : AH} (h : a call lim T D H = .ext i T1 D1 H1) : cSeq a b call lim T D H = .ext i T1 D1 H1 := by
  show Out.rec (motive := fun _ => Out) (b call lim) .ext .ret .fail (a call lim T D H) = _
  rw [h]
theorem cCondT_t {g : Fm → AV} {a b : KC} {call : FT} {lim : Nat} {T : Fm} {D : List Dfr} {H : AH} (h : g T = .bool true) : cCondT g a b call lim T D H = a call lim T D H := by
  show condK (g T) _ _ = _
  rw [h]; rfl
theorem cCondT_f {g : Fm → AV} {a b : KC} {call : FT} {lim : Nat} {T : Fm} {D : List Dfr} {H : AH} (h : g T = .bool false) : cCondT g a b call lim T D H = b call lim T D H := by
  show condK (g T) _ _ = _
  rw [h]; rfl
theorem cBlock_nrm {id : Nat} {a : KC} {call : FT} {lim : Nat} {T T1 : Fm} {D D1 : List Dfr} {H H1 : AH} (h : a call lim T D H = .nrm T1 D1 H1) : cBlock id a call lim T D H = .nrm T1 D1 H1 := by
  show Out.rec (motive := fun _ => Out) .nrm (fun i T D H => iteO (Nat.beq i id) (.nrm T D H) (.ext i T D H)) .ret .fail (a call lim T D H) = _
  rw [h]
theorem cBlock_ret {id : Nat} {a : KC} {call : FT} {lim : Nat} {T T1 : Fm} {D D1 : List Dfr} {H H1 : AH} (h : a call lim T D H = .ret T1 D1 H1) : cBlock id a call lim T D H = .ret T1 D1 H1 := by
  show Out.rec (motive := fun _ => Out) .nrm (fun i T D H => iteO (Nat.beq i id) (.nrm T D H) (.ext i T D H)) .ret .fail (a call lim T D H) = _
  rw [h]
theorem cBlock_ext {id : Nat} {a : KC} {call : FT} {lim : Nat} {T T1 : Fm} {D D1 : List Dfr} {H H1 : AH} (h : a call lim T D H = .ext id T1 D1 H1) : cBlock id a call lim T D H = .nrm T1 D1 H1 := by
  show Out.rec (motive := fun _ => Out) .nrm (fun i T D H => iteO (Nat.beq i id) (.nrm T D H) (.ext i T D H)) .ret .fail (a call lim T D H) = _
  rw [h]
  show iteO (Nat.beq id id) _ _ = _
  rw [Nat.beq_refl]; rfl
theorem fStrlen_s {l b : Nat} {H : AH} {k : KV} (h : Nat.ble l 9223372036854775807 = true) : fStrlen (.str l b) H k = k (.int .i64 (.ofNat l)) H := by
  show iteO (Nat.ble l 9223372036854775807) _ _ = _
  rw [h]; rfl
theorem fSubstr_s {l b lo hi : Nat} {j j' : IntKind} {H : AH} {k : KV} (h1 : Nat.ble lo hi = true) (h2 : Nat.ble hi l = true) :
    fSubstr (.str l b) (some (.int j (.ofNat lo))) (some (.int j' (.ofNat hi))) H k = k (.str (Nat.sub hi lo) (Nat.mod (Nat.div b (Nat.pow 2 (Nat.mul 8 lo))) (Nat.pow 2 (Nat.mul 8 (Nat.sub hi lo))))) H := by
  show iteO (band (Nat.ble lo hi) (Nat.ble hi l)) (forceN _ fun len => forceN _ fun bits => k (.str len bits) H) _ = _
  rw [h1, h2]
  show (forceN _ fun len => forceN _ fun bits => k (.str len bits) H) = _
  rw [forceN_eq, forceN_eq]
theorem fSubstr_n {l b hi : Nat} {j' : IntKind} {H : AH} {k : KV} (h2 : Nat.ble hi l = true) :
    fSubstr (.str l b) none (some (.int j' (.ofNat hi))) H k = k (.str (Nat.sub hi 0) (Nat.mod (Nat.div b (Nat.pow 2 (Nat.mul 8 0))) (Nat.pow 2 (Nat.mul 8 (Nat.sub hi 0))))) H := by
  have h1 : Nat.ble 0 hi = true := rfl
  exact fSubstr_s (j := .i64) (lo := 0) h1 h2
theorem fStr_eql {l b l' b' : Nat} {H : AH} {k : KV} : fBin .eql (.str l b) (.str l' b') H k = k (.bool (eqS l b l' b')) H := rfl
theorem fInt_geq {a b : Nat} {H : AH} {k : KV} : fBin .geq (.int .i64 (.ofNat a)) (.int .i64 (.ofNat b)) H k = k (.bool (bnot (Nat.ble (Nat.succ a) b))) H := rfl
theorem jn_t {k : KV} {h : KV → Out} {H : AH} : jn (.bool true) true k h H = h k := rfl
theorem jn_f {k : KV} {h : KV → Out} {H : AH} : jn (.bool false) true k h H = k .undef H := rfl
theorem jnf_t {k : KV} {h : KV → Out} {H : AH} : jn (.bool true) false k h H = k .undef H := rfl
theorem jnf_f {k : KV} {h : KV → Out} {H : AH} : jn (.bool false) false k h H = h k := rfl
theorem jn_u {w : Bool} {k : KV} {h : KV → Out} {H : AH} : jn .undef w k h H = k .undef H := rfl
theorem pick_t {a b : AV} {H : AH} {k : KV} : fPick (.bool true) a b H k = k a H := rfl
theorem pick_f {a b : AV} {H : AH} {k : KV} : fPick (.bool false) a b H k = k b H := rfl
theorem cond_t {x y : Out} : condK (.bool true) x (fun t => iteO t y x) = y := rfl
theorem band_tt : band true true = true := rfl
theorem bnot_t : bnot true = false := rfl
theorem bnot_f : bnot false = true := rfl

/-! ### strings as values: what begins with what -/
def hasP (l b lp bp : Nat) : Bool := Bool.rec (motive := fun _ => Bool) (eqS (Nat.sub lp 0) (Nat.mod (Nat.div b (Nat.pow 2 (Nat.mul 8 0))) (Nat.pow 2 (Nat.mul 8 (Nat.sub lp 0)))) lp bp) false (Nat.ble (Nat.succ l) lp)
theorem hasP_short {l b lp bp : Nat} (h : Nat.ble (Nat.succ l) lp = true) : hasP l b lp bp = false := by unfold hasP; rw [h]
theorem hasP_long {l b lp bp : Nat} (h : Nat.ble (Nat.succ l) lp = false) : hasP l b lp bp = eqS (Nat.sub lp 0) (Nat.mod (Nat.div b (Nat.pow 2 (Nat.mul 8 0))) (Nat.pow 2 (Nat.mul 8 (Nat.sub lp 0)))) lp bp := by unfold hasP; rw [h]
theorem ble_of_not {l lp : Nat} (h : Nat.ble (Nat.succ l) lp = false) : Nat.ble lp l = true := by
  apply Nat.ble_eq_true_of_le
  have : ¬ (Nat.succ l ≤ lp) := fun h' => by rw [Nat.ble_eq_true_of_le h'] at h; cases h
  omega
/-- a value that is a string, or nothing -/
def strO (v : AV) (k : Nat → Nat → Option AV) : Option AV :=
  AV.rec (motive_1 := fun _ => Option AV) (motive_2 := fun _ => PUnit) none (fun _ => none) (fun _ _ => none) k (fun _ _ _ _ _ => none) none (fun _ _ _ _ _ => none) none (fun _ _ _ _ _ => none) none (fun _ _ _ => none) none (fun _ _ => none) (fun _ _ => none) (fun _ _ _ => none) none (fun _ _ _ _ => none) (fun _ _ _ => none) none PUnit.unit (fun _ _ _ _ => PUnit.unit) v
theorem strO_some {v : AV} {k : Nat → Nat → Option AV} {u : AV} (h : strO v k = some u) : ∃ l b, v = .str l b ∧ k l b = some u := by
  cases v <;> first | exact ⟨_, _, rfl, h⟩ | cases h
def lim63 : Nat := 9223372036854775807
def pHasP (vs : List AV) : Option AV := List.rec (motive := fun _ => Option AV) none (fun v l _ => List.rec (motive := fun _ => Option AV) none (fun w l _ => List.rec (motive := fun _ => Option AV)
  (strO v fun l b => strO w fun lp bp => Bool.rec (motive := fun _ => Option AV) none (some (.bool (hasP l b lp bp))) (band (Nat.ble l 9223372036854775807) (Nat.ble lp 9223372036854775807))) (fun _ _ _ => none) l) l) vs
theorem pHasP_some : ∀ {vs : List AV} {u : AV}, pHasP vs = some u → ∃ l b lp bp, vs = [.str l b, .str lp bp] ∧ u = .bool (hasP l b lp bp) ∧ Nat.ble l 9223372036854775807 = true ∧ Nat.ble lp 9223372036854775807 = true
  | [], _, h => by cases h
  | [_], _, h => by cases h
  | _ :: _ :: _ :: _, _, h => by cases h
  | [v, w], u, h => by
    have h0 : (strO v fun l b => strO w fun lp bp => Bool.rec (motive := fun _ => Option AV) none (some (.bool (hasP l b lp bp))) (band (Nat.ble l 9223372036854775807) (Nat.ble lp 9223372036854775807))) = some u := h
    clear h
    obtain ⟨l, b, e1, h1⟩ := strO_some h0
    obtain ⟨lp, bp, e2, h2⟩ := strO_some h1
    subst e1; subst e2
    cases hb : band (Nat.ble l 9223372036854775807) (Nat.ble lp 9223372036854775807) with
    | false => rw [hb] at h2; cases h2
    | true =>
      rw [hb] at h2
      cases h2
      rw [band_true] at hb
      exact ⟨l, b, lp, bp, rfl, rfl, hb.1, hb.2⟩
/-- a value that is a number that is not negative, or nothing -/
def natO (v : AV) (k : Nat → Option AV) : Option AV :=
  AV.rec (motive_1 := fun _ => Option AV) (motive_2 := fun _ => PUnit) none (fun _ => none) (fun j n => IntKind.rec (motive := fun _ => Option AV) none none none (Int.rec (motive := fun _ => Option AV) k (fun _ => none) n) none none none none j) (fun _ _ => none) (fun _ _ _ _ _ => none) none (fun _ _ _ _ _ => none) none (fun _ _ _ _ _ => none) none (fun _ _ _ => none) none (fun _ _ => none) (fun _ _ => none) (fun _ _ _ => none) none (fun _ _ _ _ => none) (fun _ _ _ => none) none PUnit.unit (fun _ _ _ _ => PUnit.unit) v
theorem natO_some {v : AV} {k : Nat → Option AV} {u : AV} (h : natO v k = some u) : ∃ a, v = .int .i64 (.ofNat a) ∧ k a = some u := by
  cases v with
  | int j n =>
    cases j <;> first | cases h | skip
    cases n with
    | ofNat a => exact ⟨a, rfl, h⟩
    | negSucc a => cases h
  | _ => cases h
/-- a value that says the same whatever the memory -/
def Plain (v : AV) : Prop := ∀ μ μ' x, VRel μ v x → VRel μ' v x
theorem plain_str (l b : Nat) : Plain (.str l b) := fun μ μ' x h => by
  generalize he : AV.str l b = v at h
  cases h <;> cases he
  exact .str _
theorem plain_bool (b : Bool) : Plain (.bool b) := fun μ μ' x h => by cases h; exact .bool _
theorem plain_tup2 {a b : AV} (ha : Plain a) (hb : Plain b) : Plain (.tuple [a, b]) := fun μ μ' x h => by
  cases h with
  | tuple _ xs h =>
  cases h with
  | cons _ _ _ _ h1 h2 =>
  cases h2 with
  | cons _ _ _ _ h3 h4 =>
  cases h4
  exact .tuple _ _ (.cons _ _ _ _ (ha _ _ _ h1) (.cons _ _ _ _ (hb _ _ _ h3) .nil))
/-- where a run from nothing answers a plain value, so does the call anywhere, and leaves what is known as it was -/
theorem closed_plain {Pr : Program} {call : FT} (hcall : CallOk Pr call) {f : P} {vs : List AV} {v : AV} {H' : AH} (he : call f vs emptyH = .ok v H') (hp : Plain v) (hvs : ∀ μ xs, VRels μ vs xs → VRels (fun _ _ => none) vs xs)
    {base : Nat} {μ : M} {w : World} {xs : List Value} {H : AH} (hR : Rel μ H w base) (hx : VRels μ vs xs) : RunsTo Pr f.nat xs.toArray w (Post base μ w v H) := by
  have conv : ∀ x w', Post w.heap.size (fun _ _ => none) w v H' x w' → Post base μ w v H x w' := by
    rintro x w' ⟨μ', _, _, hF, hv⟩
    have hs := size_of_keep hF.heap
    exact ⟨μ, Ext.refl μ, hR.grown hs hF.heap, ⟨fun i hi => hF.heap i (Nat.lt_of_lt_of_le hi hR.le), hF.os, hF.output, hF.fz⟩, hp _ _ _ hv⟩
  rcases hcall f vs emptyH _ _ he w.heap.size _ w xs (rel0 w) (hvs μ xs hx) with ⟨h1, h2⟩ | ⟨x, w', h1, h2⟩
  · exact .inl ⟨h1, Calls.mono h2 fun e w' ⟨x, hx, hp⟩ => ⟨x, hx, conv x w' hp⟩⟩
  · exact .inr ⟨x, w', h1, conv x w' h2⟩
/-- a function whose runs leave the memory as it was -/
theorem prim_of_run {Pr : Program} {call : FT} (hcall : CallOk Pr call) {f : P} {g : List AV → Option AV} (h : ∀ vs v, g vs = some v → ∀ H, call f vs H = .ok v H) : PrimOk Pr f g :=
  fun vs v hv _ μ w xs H hR hx => hcall f vs H v H (h vs v hv H) _ μ w xs hR hx
end
end Go.Ev
