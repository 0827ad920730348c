/- The operator that begins at a place, as a function answered without its code. -/
import Derived.Test.YtpmgingpmfmdfaaHa
set_option linter.unusedVariables false
set_option linter.unusedSimpArgs false
namespace Go.Ev
noncomputable section
def envA_0 : E1 := ⟨none, none, (some (.fn a2)), (some (.fn a3)), (some (.fn a4)), (some (.fn a5)), (some (.fn a6)), (some (.fn a7)), (some (.fn a8)), (some (.fn a9)), (some (.fn a10)), (some (.fn a11)), (some (.fn a12)), (some (.fn a13)), (some (.fn a14)), (some (.fn a15))⟩
def envA_1 : E1 := ⟨(some (.fn a16)), (some (.fn a17)), (some (.fn a18)), (some (.fn a19)), (some (.fn a20)), (some (.fn a21)), (some (.fn a22)), (some (.fn a23)), (some (.fn a24)), (some (.fn a25)), (some (.fn a26)), (some (.fn a27)), (some (.fn a28)), (some (.fn a29)), (some (.fn a30)), (some (.fn a31))⟩
def envA_2 : E1 := ⟨(some (.fn a32)), (some (.fn a33)), (some (.fn a34)), (some (.fn a35)), (some (.fn a36)), (some (.fn a37)), (some (.fn a38)), (some (.fn a39)), (some (.fn a40)), (some (.fn a41)), (some (.fn a42)), (some (.fn a43)), (some (.prim pIx)), (some (.fn a45)), (some (.fn a46)), (some (.fn a47))⟩
def envA_3 : E1 := ⟨(some (.fn a48)), (some (.fn a49)), (some (.fn a50)), (some (.fn a51)), (some (.fn a52)), (some (.fn a53)), (some (.fn a54)), (some (.fn a55)), (some (.fn a56)), (some (.prim pHasP)), (some (.fn a58)), (some (.fn a59)), (some (.fn a60)), (some (.fn a61)), (some (.fn a62)), (some (.fn a63))⟩
def envA_4 : E1 := ⟨(some (.fn a64)), (some (.fn a65)), (some (.fn a66)), (some (.fn a67)), (some (.prim pHasP)), (some (.fn a69)), (some (.fn a70)), (some (.fn a71)), (some (.fn a72)), (some (.fn a73)), (some (.fn a74)), (some (.fn a75)), (some (.fn a76)), (some (.fn a77)), (some (.fn a78)), (some (.fn a79))⟩
def envA_5 : E1 := ⟨(some (.fn a80)), (some (.fn a81)), (some (.fn a82)), (some (.fn a83)), (some (.fn a84)), (some (.fn a85)), (some (.fn a86)), (some (.fn a87)), (some (.fn a88)), (some (.fn a89)), (some (.fn a90)), (some (.fn a91)), (some (.fn a92)), (some (.fn a93)), (some (.fn a94)), (some (.fn a95))⟩
def envA_6 : E1 := ⟨(some (.fn a96)), (some (.fn a97)), (some (.fn a98)), (some (.fn a99)), (some (.fn a100)), (some (.fn a101)), (some (.fn a102)), (some (.fn a103)), (some (.fn a104)), (some (.fn a105)), (some (.fn a106)), (some (.fn a107)), (some (.fn a108)), (some (.fn a109)), (some (.fn a110)), none⟩
def envA_7 : E1 := ⟨none, none, none, none, none, none, none, none, none, none, none, none, none, none, none, none⟩
def envA_8 : E1 := ⟨none, none, none, none, none, none, none, none, none, none, none, none, none, none, none, none⟩
def envA : Env := ⟨(⟨envA_0, envA_1, envA_2, envA_3, envA_4, envA_5, envA_6, envA_7, envA_8, N.all none, N.all none, N.all none, N.all none, N.all none, N.all none, N.all none⟩ : E2), N.all (N.all none), N.all (N.all none), N.all (N.all none), N.all (N.all none), N.all (N.all none), N.all (N.all none), N.all (N.all none), N.all (N.all none), N.all (N.all none), N.all (N.all none), N.all (N.all none), N.all (N.all none), N.all (N.all none), N.all (N.all none), N.all (N.all none)⟩
theorem envA_0_ok : All16 (fun a o => OkO Go.Proofs.Try.prog ⟨a, .d0, .d0, .d0⟩ o) envA_0 := ⟨trivial, trivial, k2, k3, k4, k5, k6, k7, k8, k9, k10, k11, k12, k13, k14, k15⟩
theorem envA_1_ok : All16 (fun a o => OkO Go.Proofs.Try.prog ⟨a, .d1, .d0, .d0⟩ o) envA_1 := ⟨k16, k17, k18, k19, k20, k21, k22, k23, k24, k25, k26, k27, k28, k29, k30, k31⟩
theorem envA_2_ok : All16 (fun a o => OkO Go.Proofs.Try.prog ⟨a, .d2, .d0, .d0⟩ o) envA_2 := ⟨k32, k33, k34, k35, k36, k37, k38, k39, k40, k41, k42, k43, ix_ok, k45, k46, k47⟩
theorem envA_3_ok : All16 (fun a o => OkO Go.Proofs.Try.prog ⟨a, .d3, .d0, .d0⟩ o) envA_3 := ⟨k48, k49, k50, k51, k52, k53, k54, k55, k56, has57_ok, k58, k59, k60, k61, k62, k63⟩
theorem envA_4_ok : All16 (fun a o => OkO Go.Proofs.Try.prog ⟨a, .d4, .d0, .d0⟩ o) envA_4 := ⟨k64, k65, k66, k67, has68_ok, k69, k70, k71, k72, k73, k74, k75, k76, k77, k78, k79⟩
theorem envA_5_ok : All16 (fun a o => OkO Go.Proofs.Try.prog ⟨a, .d5, .d0, .d0⟩ o) envA_5 := ⟨k80, k81, k82, k83, k84, k85, k86, k87, k88, k89, k90, k91, k92, k93, k94, k95⟩
theorem envA_6_ok : All16 (fun a o => OkO Go.Proofs.Try.prog ⟨a, .d6, .d0, .d0⟩ o) envA_6 := ⟨k96, k97, k98, k99, k100, k101, k102, k103, k104, k105, k106, k107, k108, k109, k110, trivial⟩
theorem envA_7_ok : All16 (fun a o => OkO Go.Proofs.Try.prog ⟨a, .d7, .d0, .d0⟩ o) envA_7 := ⟨trivial, trivial, trivial, trivial, trivial, trivial, trivial, trivial, trivial, trivial, trivial, trivial, trivial, trivial, trivial, trivial⟩
theorem envA_8_ok : All16 (fun a o => OkO Go.Proofs.Try.prog ⟨a, .d8, .d0, .d0⟩ o) envA_8 := ⟨trivial, trivial, trivial, trivial, trivial, trivial, trivial, trivial, trivial, trivial, trivial, trivial, trivial, trivial, trivial, trivial⟩
theorem envA_ok : ∀ f e, envA.at f = some e → FeOk Go.Proofs.Try.prog f e := envOk ⟨⟨envA_0_ok, envA_1_ok, envA_2_ok, envA_3_ok, envA_4_ok, envA_5_ok, envA_6_ok, envA_7_ok, envA_8_ok, all_none1 _ _, all_none1 _ _, all_none1 _ _, all_none1 _ _, all_none1 _ _, all_none1 _ _, all_none1 _ _⟩, all_none2 _, all_none2 _, all_none2 _, all_none2 _, all_none2 _, all_none2 _, all_none2 _, all_none2 _, all_none2 _, all_none2 _, all_none2 _, all_none2 _, all_none2 _, all_none2 _, all_none2 _⟩
def b50 : KC := (cSeq (fun call _ T D H => fBin .lss T.c0.c0 T.c0.c8 H fun v0 H => w9 v0 T.c0 fun t => W0 t T fun T => .nrm T D H) (cSeq (cCondT (fun T => T.c0.c9) cSkip (cExit 0)) (cSeq (cBlock 1 (cSeq (fun call _ T D H => fIaddr 1 T.c0.c5 T.c0.c0 H fun v0 H => fLoad none v0 H fun v1 H => w4 v1 T.c0 fun t => W0 t T fun T => .nrm T D H) (cSeq (fun call _ T D H => fSubstr T.c0.c6 (some T.c0.c3) none H fun v2 H => fCall p57 [v2, T.c0.c4] call H fun v4 H => w10 v4 T.c0 fun t => W0 t T fun T => .nrm T D H) (cCondT (fun T => T.c0.c10) (cSeq (fun call _ T D H => w1 T.c0.c4 T.c0 fun t => W0 t T fun T => w2 (.bool true) T.c0 fun t => W0 t T fun T => .nrm T D H) cRet) cSkip)))) (fun call _ T D H => fBin .add T.c0.c0 (.int .i64 (.ofNat 1)) H fun v0 H => w0 v0 T.c0 fun t => W0 t T fun T => .nrm T D H))))
def B50 : KC := (cSeq (fun call _ T D H => w1 (.str 0 0) T.c0 fun t => W0 t T fun T => w2 (.bool false) T.c0 fun t => W0 t T fun T => .nrm T D H) (cSeq (cSeq (fun call _ T D H => fBin .lss T.c0.c3 (.int .i64 (.ofNat 0)) H fun v1 H => jn v1 false (fun v3 H => jn v1 false (fun v4 H => jn v1 false (fun v5 H => jn v1 false (fun v6 H => fPick v1 (.bool true) v6 H fun v7 H => w7 v7 T.c0 fun t => W0 t T fun T => .nrm T D H) (fBin .geq v3 v5 H) H) (fStrlen v4 H) H) (fun k => k T.c0.c6 H) H) (fun k => k T.c0.c3 H) H) (cCondT (fun T => T.c0.c7) (cSeq (fun call _ T D H => w1 (.str 0 0) T.c0 fun t => W0 t T fun T => w2 (.bool false) T.c0 fun t => W0 t T fun T => .nrm T D H) cRet) cSkip)) (cSeq (cSeq (fun call _ T D H => fCall p66 [] call H fun v0 H => w5 v0 T.c0 fun t => W0 t T fun T => fSllen v0 H fun v1 H => w8 v1 T.c0 fun t => W0 t T fun T => w0 (.int .i64 (.ofNat 0)) T.c0 fun t => W0 t T fun T => .nrm T D H) (cBlock 0 (cLoop b50))) (cSeq (fun call _ T D H => w1 (.str 0 0) T.c0 fun t => W0 t T fun T => w2 (.bool false) T.c0 fun t => W0 t T fun T => .nrm T D H) cRet))))
theorem a50_body : a50.body = B50 := rfl
def opL : List (Nat × Nat) := [(2, 15163), (2, 9766), (2, 31868), (2, 15934), (2, 15420), (2, 9788), (2, 9790), (2, 15932), (2, 31806), (1, 59), (1, 124), (1, 38), (1, 40), (1, 41), (1, 60), (1, 62), (1, 10)]
def heapOf (r : CR) : AH := CR.rec (motive := fun _ => AH) (fun _ H => H) (fun _ => emptyH) r
def hOps : AH := heapOf (evF envA 100000 2 p66 [] emptyH)
theorem opsRun : evF envA 100000 2 p66 [] emptyH = .ok (.slice ⟨.d0, .d0, .d0, .d0⟩ 0 0 17 1) hOps := by kernel_rfl
theorem opRd0 (k : KV) : fLoad none (.ptr ⟨.d0, .d0, .d0, .d0⟩ 0 0 0 1) hOps k = k (.str 2 15163) hOps := by kernel_rfl
theorem opRd1 (k : KV) : fLoad none (.ptr ⟨.d0, .d0, .d0, .d0⟩ 0 1 0 1) hOps k = k (.str 2 9766) hOps := by kernel_rfl
theorem opRd2 (k : KV) : fLoad none (.ptr ⟨.d0, .d0, .d0, .d0⟩ 0 2 0 1) hOps k = k (.str 2 31868) hOps := by kernel_rfl
theorem opRd3 (k : KV) : fLoad none (.ptr ⟨.d0, .d0, .d0, .d0⟩ 0 3 0 1) hOps k = k (.str 2 15934) hOps := by kernel_rfl
theorem opRd4 (k : KV) : fLoad none (.ptr ⟨.d0, .d0, .d0, .d0⟩ 0 4 0 1) hOps k = k (.str 2 15420) hOps := by kernel_rfl
theorem opRd5 (k : KV) : fLoad none (.ptr ⟨.d0, .d0, .d0, .d0⟩ 0 5 0 1) hOps k = k (.str 2 9788) hOps := by kernel_rfl
theorem opRd6 (k : KV) : fLoad none (.ptr ⟨.d0, .d0, .d0, .d0⟩ 0 6 0 1) hOps k = k (.str 2 9790) hOps := by kernel_rfl
theorem opRd7 (k : KV) : fLoad none (.ptr ⟨.d0, .d0, .d0, .d0⟩ 0 7 0 1) hOps k = k (.str 2 15932) hOps := by kernel_rfl
theorem opRd8 (k : KV) : fLoad none (.ptr ⟨.d0, .d0, .d0, .d0⟩ 0 8 0 1) hOps k = k (.str 2 31806) hOps := by kernel_rfl
theorem opRd9 (k : KV) : fLoad none (.ptr ⟨.d0, .d0, .d0, .d0⟩ 0 9 0 1) hOps k = k (.str 1 59) hOps := by kernel_rfl
theorem opRd10 (k : KV) : fLoad none (.ptr ⟨.d0, .d0, .d0, .d0⟩ 0 10 0 1) hOps k = k (.str 1 124) hOps := by kernel_rfl
theorem opRd11 (k : KV) : fLoad none (.ptr ⟨.d0, .d0, .d0, .d0⟩ 0 11 0 1) hOps k = k (.str 1 38) hOps := by kernel_rfl
theorem opRd12 (k : KV) : fLoad none (.ptr ⟨.d0, .d0, .d0, .d0⟩ 0 12 0 1) hOps k = k (.str 1 40) hOps := by kernel_rfl
theorem opRd13 (k : KV) : fLoad none (.ptr ⟨.d0, .d0, .d0, .d0⟩ 0 13 0 1) hOps k = k (.str 1 41) hOps := by kernel_rfl
theorem opRd14 (k : KV) : fLoad none (.ptr ⟨.d0, .d0, .d0, .d0⟩ 0 14 0 1) hOps k = k (.str 1 60) hOps := by kernel_rfl
theorem opRd15 (k : KV) : fLoad none (.ptr ⟨.d0, .d0, .d0, .d0⟩ 0 15 0 1) hOps k = k (.str 1 62) hOps := by kernel_rfl
theorem opRd16 (k : KV) : fLoad none (.ptr ⟨.d0, .d0, .d0, .d0⟩ 0 16 0 1) hOps k = k (.str 1 10) hOps := by kernel_rfl
theorem fLss (a b : Nat) (H : AH) (k : KV) : fBin .lss (.int .i64 (.ofNat a)) (.int .i64 (.ofNat b)) H k = k (.bool (Nat.ble (Nat.succ a) b)) H := rfl
theorem fIx (m : Nat) (H : AH) (k : KV) (h : Nat.ble (Nat.succ m) 17 = true) : fIaddr 1 (.slice ⟨.d0, .d0, .d0, .d0⟩ 0 0 17 1) (.int .i64 (.ofNat m)) H k = k (.ptr ⟨.d0, .d0, .d0, .d0⟩ 0 (Nat.add 0 m) 0 1) H := by
  show iteO (band (Nat.beq 1 1) (Nat.ble (Nat.succ m) 17)) _ _ = _
  rw [h]; rfl
theorem fSubTo {l b lo : Nat} {j : IntKind} {H : AH} {k : KV} (h : Nat.ble lo l = true) : fSubstr (.str l b) (some (.int j (.ofNat lo))) none H k = k (.str (Nat.sub l lo) (Nat.mod (Nat.div b (Nat.pow 2 (Nat.mul 8 lo))) (Nat.pow 2 (Nat.mul 8 (Nat.sub l lo))))) H := by
  show iteO (band (Nat.ble lo l) (Nat.ble l l)) (forceN _ fun len => forceN _ fun bits => k (.str len bits) H) _ = _
  rw [h, Nat.ble_eq_true_of_le (Nat.le_refl l)]
  show (forceN _ fun len => forceN _ fun bits => k (.str len bits) H) = _
  rw [forceN_eq, forceN_eq]
section
variable {l b a : Nat}
abbrev sL (l a : Nat) : Nat := Nat.sub l a
abbrev sB (l b a : Nat) : Nat := Nat.mod (Nat.div b (Nat.pow 2 (Nat.mul 8 a))) (Nat.pow 2 (Nat.mul 8 (Nat.sub l a)))
theorem opHas {n : Nat} {lp bp : Nat} (h1 : Nat.ble (sL l a) 9223372036854775807 = true) (h2 : Nat.ble lp 9223372036854775807 = true) (H : AH) (k : KV) : fCall p57 [.str (sL l a) (sB l b a), .str lp bp] (evF envA 100000 (n + 1)) H k = k (.bool (hasP (sL l a) (sB l b a) lp bp)) H := by
  show kc k (primK (Bool.rec (motive := fun _ => Option AV) none (some (.bool (hasP (sL l a) (sB l b a) lp bp))) (band (Nat.ble (sL l a) 9223372036854775807) (Nat.ble lp 9223372036854775807))) H) = _
  rw [h1, h2]; rfl
theorem opNo0 (h0 : Nat.ble a l = true) (h1 : Nat.ble (sL l a) 9223372036854775807 = true) (hc : hasP (sL l a) (sB l b a) 2 15163 = false) (n : Nat) (x1 x2 x4 x7 x9 x10 x11 x12 x13 x14 x15 : AV) :
    b50 (evF envA 100000 (n + 1)) 100000 ⟨⟨.int .i64 (.ofNat 0), x1, x2, .int .i64 (.ofNat a), x4, .slice ⟨.d0, .d0, .d0, .d0⟩ 0 0 17 1, .str l b, x7, .int .i64 (.ofNat 17), x9, x10, x11, x12, x13, x14, x15⟩, fe, fe, fe, fe, fe, fe, fe, fe, fe, fe, fe, fe, fe, fe, fe⟩ [] hOps = .nrm ⟨⟨.int .i64 (.ofNat 1), x1, x2, .int .i64 (.ofNat a), .str 2 15163, .slice ⟨.d0, .d0, .d0, .d0⟩ 0 0 17 1, .str l b, x7, .int .i64 (.ofNat 17), .bool true, .bool false, x11, x12, x13, x14, x15⟩, fe, fe, fe, fe, fe, fe, fe, fe, fe, fe, fe, fe, fe, fe, fe⟩ [] hOps := by
  have hl : Nat.ble (Nat.succ 0) 17 = true := rfl
  have h2 : Nat.ble 2 9223372036854775807 = true := rfl
  have ha : Nat.add 0 0 = 0 := rfl
  simp only [b50, cSeq, fLss, hl, w9, W0, cCondT, condK, iteO, cSkip, cBlock, fIx 0 _ _ hl, ha, opRd0, w4, fSubTo h0, opHas h1 h2, hc, w10, cRet, w0]
  rfl
theorem opNo1 (h0 : Nat.ble a l = true) (h1 : Nat.ble (sL l a) 9223372036854775807 = true) (hc : hasP (sL l a) (sB l b a) 2 9766 = false) (n : Nat) (x1 x2 x4 x7 x9 x10 x11 x12 x13 x14 x15 : AV) :
    b50 (evF envA 100000 (n + 1)) 100000 ⟨⟨.int .i64 (.ofNat 1), x1, x2, .int .i64 (.ofNat a), x4, .slice ⟨.d0, .d0, .d0, .d0⟩ 0 0 17 1, .str l b, x7, .int .i64 (.ofNat 17), x9, x10, x11, x12, x13, x14, x15⟩, fe, fe, fe, fe, fe, fe, fe, fe, fe, fe, fe, fe, fe, fe, fe⟩ [] hOps = .nrm ⟨⟨.int .i64 (.ofNat 2), x1, x2, .int .i64 (.ofNat a), .str 2 9766, .slice ⟨.d0, .d0, .d0, .d0⟩ 0 0 17 1, .str l b, x7, .int .i64 (.ofNat 17), .bool true, .bool false, x11, x12, x13, x14, x15⟩, fe, fe, fe, fe, fe, fe, fe, fe, fe, fe, fe, fe, fe, fe, fe⟩ [] hOps := by
  have hl : Nat.ble (Nat.succ 1) 17 = true := rfl
  have h2 : Nat.ble 2 9223372036854775807 = true := rfl
  have ha : Nat.add 0 1 = 1 := rfl
  simp only [b50, cSeq, fLss, hl, w9, W0, cCondT, condK, iteO, cSkip, cBlock, fIx 1 _ _ hl, ha, opRd1, w4, fSubTo h0, opHas h1 h2, hc, w10, cRet, w0]
  rfl
theorem opNo2 (h0 : Nat.ble a l = true) (h1 : Nat.ble (sL l a) 9223372036854775807 = true) (hc : hasP (sL l a) (sB l b a) 2 31868 = false) (n : Nat) (x1 x2 x4 x7 x9 x10 x11 x12 x13 x14 x15 : AV) :
    b50 (evF envA 100000 (n + 1)) 100000 ⟨⟨.int .i64 (.ofNat 2), x1, x2, .int .i64 (.ofNat a), x4, .slice ⟨.d0, .d0, .d0, .d0⟩ 0 0 17 1, .str l b, x7, .int .i64 (.ofNat 17), x9, x10, x11, x12, x13, x14, x15⟩, fe, fe, fe, fe, fe, fe, fe, fe, fe, fe, fe, fe, fe, fe, fe⟩ [] hOps = .nrm ⟨⟨.int .i64 (.ofNat 3), x1, x2, .int .i64 (.ofNat a), .str 2 31868, .slice ⟨.d0, .d0, .d0, .d0⟩ 0 0 17 1, .str l b, x7, .int .i64 (.ofNat 17), .bool true, .bool false, x11, x12, x13, x14, x15⟩, fe, fe, fe, fe, fe, fe, fe, fe, fe, fe, fe, fe, fe, fe, fe⟩ [] hOps := by
  have hl : Nat.ble (Nat.succ 2) 17 = true := rfl
  have h2 : Nat.ble 2 9223372036854775807 = true := rfl
  have ha : Nat.add 0 2 = 2 := rfl
  simp only [b50, cSeq, fLss, hl, w9, W0, cCondT, condK, iteO, cSkip, cBlock, fIx 2 _ _ hl, ha, opRd2, w4, fSubTo h0, opHas h1 h2, hc, w10, cRet, w0]
  rfl
theorem opNo3 (h0 : Nat.ble a l = true) (h1 : Nat.ble (sL l a) 9223372036854775807 = true) (hc : hasP (sL l a) (sB l b a) 2 15934 = false) (n : Nat) (x1 x2 x4 x7 x9 x10 x11 x12 x13 x14 x15 : AV) :
    b50 (evF envA 100000 (n + 1)) 100000 ⟨⟨.int .i64 (.ofNat 3), x1, x2, .int .i64 (.ofNat a), x4, .slice ⟨.d0, .d0, .d0, .d0⟩ 0 0 17 1, .str l b, x7, .int .i64 (.ofNat 17), x9, x10, x11, x12, x13, x14, x15⟩, fe, fe, fe, fe, fe, fe, fe, fe, fe, fe, fe, fe, fe, fe, fe⟩ [] hOps = .nrm ⟨⟨.int .i64 (.ofNat 4), x1, x2, .int .i64 (.ofNat a), .str 2 15934, .slice ⟨.d0, .d0, .d0, .d0⟩ 0 0 17 1, .str l b, x7, .int .i64 (.ofNat 17), .bool true, .bool false, x11, x12, x13, x14, x15⟩, fe, fe, fe, fe, fe, fe, fe, fe, fe, fe, fe, fe, fe, fe, fe⟩ [] hOps := by
  have hl : Nat.ble (Nat.succ 3) 17 = true := rfl
  have h2 : Nat.ble 2 9223372036854775807 = true := rfl
  have ha : Nat.add 0 3 = 3 := rfl
  simp only [b50, cSeq, fLss, hl, w9, W0, cCondT, condK, iteO, cSkip, cBlock, fIx 3 _ _ hl, ha, opRd3, w4, fSubTo h0, opHas h1 h2, hc, w10, cRet, w0]
  rfl
theorem opNo4 (h0 : Nat.ble a l = true) (h1 : Nat.ble (sL l a) 9223372036854775807 = true) (hc : hasP (sL l a) (sB l b a) 2 15420 = false) (n : Nat) (x1 x2 x4 x7 x9 x10 x11 x12 x13 x14 x15 : AV) :
    b50 (evF envA 100000 (n + 1)) 100000 ⟨⟨.int .i64 (.ofNat 4), x1, x2, .int .i64 (.ofNat a), x4, .slice ⟨.d0, .d0, .d0, .d0⟩ 0 0 17 1, .str l b, x7, .int .i64 (.ofNat 17), x9, x10, x11, x12, x13, x14, x15⟩, fe, fe, fe, fe, fe, fe, fe, fe, fe, fe, fe, fe, fe, fe, fe⟩ [] hOps = .nrm ⟨⟨.int .i64 (.ofNat 5), x1, x2, .int .i64 (.ofNat a), .str 2 15420, .slice ⟨.d0, .d0, .d0, .d0⟩ 0 0 17 1, .str l b, x7, .int .i64 (.ofNat 17), .bool true, .bool false, x11, x12, x13, x14, x15⟩, fe, fe, fe, fe, fe, fe, fe, fe, fe, fe, fe, fe, fe, fe, fe⟩ [] hOps := by
  have hl : Nat.ble (Nat.succ 4) 17 = true := rfl
  have h2 : Nat.ble 2 9223372036854775807 = true := rfl
  have ha : Nat.add 0 4 = 4 := rfl
  simp only [b50, cSeq, fLss, hl, w9, W0, cCondT, condK, iteO, cSkip, cBlock, fIx 4 _ _ hl, ha, opRd4, w4, fSubTo h0, opHas h1 h2, hc, w10, cRet, w0]
  rfl
theorem opNo5 (h0 : Nat.ble a l = true) (h1 : Nat.ble (sL l a) 9223372036854775807 = true) (hc : hasP (sL l a) (sB l b a) 2 9788 = false) (n : Nat) (x1 x2 x4 x7 x9 x10 x11 x12 x13 x14 x15 : AV) :
    b50 (evF envA 100000 (n + 1)) 100000 ⟨⟨.int .i64 (.ofNat 5), x1, x2, .int .i64 (.ofNat a), x4, .slice ⟨.d0, .d0, .d0, .d0⟩ 0 0 17 1, .str l b, x7, .int .i64 (.ofNat 17), x9, x10, x11, x12, x13, x14, x15⟩, fe, fe, fe, fe, fe, fe, fe, fe, fe, fe, fe, fe, fe, fe, fe⟩ [] hOps = .nrm ⟨⟨.int .i64 (.ofNat 6), x1, x2, .int .i64 (.ofNat a), .str 2 9788, .slice ⟨.d0, .d0, .d0, .d0⟩ 0 0 17 1, .str l b, x7, .int .i64 (.ofNat 17), .bool true, .bool false, x11, x12, x13, x14, x15⟩, fe, fe, fe, fe, fe, fe, fe, fe, fe, fe, fe, fe, fe, fe, fe⟩ [] hOps := by
  have hl : Nat.ble (Nat.succ 5) 17 = true := rfl
  have h2 : Nat.ble 2 9223372036854775807 = true := rfl
  have ha : Nat.add 0 5 = 5 := rfl
  simp only [b50, cSeq, fLss, hl, w9, W0, cCondT, condK, iteO, cSkip, cBlock, fIx 5 _ _ hl, ha, opRd5, w4, fSubTo h0, opHas h1 h2, hc, w10, cRet, w0]
  rfl
theorem opNo6 (h0 : Nat.ble a l = true) (h1 : Nat.ble (sL l a) 9223372036854775807 = true) (hc : hasP (sL l a) (sB l b a) 2 9790 = false) (n : Nat) (x1 x2 x4 x7 x9 x10 x11 x12 x13 x14 x15 : AV) :
    b50 (evF envA 100000 (n + 1)) 100000 ⟨⟨.int .i64 (.ofNat 6), x1, x2, .int .i64 (.ofNat a), x4, .slice ⟨.d0, .d0, .d0, .d0⟩ 0 0 17 1, .str l b, x7, .int .i64 (.ofNat 17), x9, x10, x11, x12, x13, x14, x15⟩, fe, fe, fe, fe, fe, fe, fe, fe, fe, fe, fe, fe, fe, fe, fe⟩ [] hOps = .nrm ⟨⟨.int .i64 (.ofNat 7), x1, x2, .int .i64 (.ofNat a), .str 2 9790, .slice ⟨.d0, .d0, .d0, .d0⟩ 0 0 17 1, .str l b, x7, .int .i64 (.ofNat 17), .bool true, .bool false, x11, x12, x13, x14, x15⟩, fe, fe, fe, fe, fe, fe, fe, fe, fe, fe, fe, fe, fe, fe, fe⟩ [] hOps := by
  have hl : Nat.ble (Nat.succ 6) 17 = true := rfl
  have h2 : Nat.ble 2 9223372036854775807 = true := rfl
  have ha : Nat.add 0 6 = 6 := rfl
  simp only [b50, cSeq, fLss, hl, w9, W0, cCondT, condK, iteO, cSkip, cBlock, fIx 6 _ _ hl, ha, opRd6, w4, fSubTo h0, opHas h1 h2, hc, w10, cRet, w0]
  rfl
theorem opNo7 (h0 : Nat.ble a l = true) (h1 : Nat.ble (sL l a) 9223372036854775807 = true) (hc : hasP (sL l a) (sB l b a) 2 15932 = false) (n : Nat) (x1 x2 x4 x7 x9 x10 x11 x12 x13 x14 x15 : AV) :
    b50 (evF envA 100000 (n + 1)) 100000 ⟨⟨.int .i64 (.ofNat 7), x1, x2, .int .i64 (.ofNat a), x4, .slice ⟨.d0, .d0, .d0, .d0⟩ 0 0 17 1, .str l b, x7, .int .i64 (.ofNat 17), x9, x10, x11, x12, x13, x14, x15⟩, fe, fe, fe, fe, fe, fe, fe, fe, fe, fe, fe, fe, fe, fe, fe⟩ [] hOps = .nrm ⟨⟨.int .i64 (.ofNat 8), x1, x2, .int .i64 (.ofNat a), .str 2 15932, .slice ⟨.d0, .d0, .d0, .d0⟩ 0 0 17 1, .str l b, x7, .int .i64 (.ofNat 17), .bool true, .bool false, x11, x12, x13, x14, x15⟩, fe, fe, fe, fe, fe, fe, fe, fe, fe, fe, fe, fe, fe, fe, fe⟩ [] hOps := by
  have hl : Nat.ble (Nat.succ 7) 17 = true := rfl
  have h2 : Nat.ble 2 9223372036854775807 = true := rfl
  have ha : Nat.add 0 7 = 7 := rfl
  simp only [b50, cSeq, fLss, hl, w9, W0, cCondT, condK, iteO, cSkip, cBlock, fIx 7 _ _ hl, ha, opRd7, w4, fSubTo h0, opHas h1 h2, hc, w10, cRet, w0]
  rfl
theorem opNo8 (h0 : Nat.ble a l = true) (h1 : Nat.ble (sL l a) 9223372036854775807 = true) (hc : hasP (sL l a) (sB l b a) 2 31806 = false) (n : Nat) (x1 x2 x4 x7 x9 x10 x11 x12 x13 x14 x15 : AV) :
    b50 (evF envA 100000 (n + 1)) 100000 ⟨⟨.int .i64 (.ofNat 8), x1, x2, .int .i64 (.ofNat a), x4, .slice ⟨.d0, .d0, .d0, .d0⟩ 0 0 17 1, .str l b, x7, .int .i64 (.ofNat 17), x9, x10, x11, x12, x13, x14, x15⟩, fe, fe, fe, fe, fe, fe, fe, fe, fe, fe, fe, fe, fe, fe, fe⟩ [] hOps = .nrm ⟨⟨.int .i64 (.ofNat 9), x1, x2, .int .i64 (.ofNat a), .str 2 31806, .slice ⟨.d0, .d0, .d0, .d0⟩ 0 0 17 1, .str l b, x7, .int .i64 (.ofNat 17), .bool true, .bool false, x11, x12, x13, x14, x15⟩, fe, fe, fe, fe, fe, fe, fe, fe, fe, fe, fe, fe, fe, fe, fe⟩ [] hOps := by
  have hl : Nat.ble (Nat.succ 8) 17 = true := rfl
  have h2 : Nat.ble 2 9223372036854775807 = true := rfl
  have ha : Nat.add 0 8 = 8 := rfl
  simp only [b50, cSeq, fLss, hl, w9, W0, cCondT, condK, iteO, cSkip, cBlock, fIx 8 _ _ hl, ha, opRd8, w4, fSubTo h0, opHas h1 h2, hc, w10, cRet, w0]
  rfl
theorem opNo9 (h0 : Nat.ble a l = true) (h1 : Nat.ble (sL l a) 9223372036854775807 = true) (hc : hasP (sL l a) (sB l b a) 1 59 = false) (n : Nat) (x1 x2 x4 x7 x9 x10 x11 x12 x13 x14 x15 : AV) :
    b50 (evF envA 100000 (n + 1)) 100000 ⟨⟨.int .i64 (.ofNat 9), x1, x2, .int .i64 (.ofNat a), x4, .slice ⟨.d0, .d0, .d0, .d0⟩ 0 0 17 1, .str l b, x7, .int .i64 (.ofNat 17), x9, x10, x11, x12, x13, x14, x15⟩, fe, fe, fe, fe, fe, fe, fe, fe, fe, fe, fe, fe, fe, fe, fe⟩ [] hOps = .nrm ⟨⟨.int .i64 (.ofNat 10), x1, x2, .int .i64 (.ofNat a), .str 1 59, .slice ⟨.d0, .d0, .d0, .d0⟩ 0 0 17 1, .str l b, x7, .int .i64 (.ofNat 17), .bool true, .bool false, x11, x12, x13, x14, x15⟩, fe, fe, fe, fe, fe, fe, fe, fe, fe, fe, fe, fe, fe, fe, fe⟩ [] hOps := by
  have hl : Nat.ble (Nat.succ 9) 17 = true := rfl
  have h2 : Nat.ble 1 9223372036854775807 = true := rfl
  have ha : Nat.add 0 9 = 9 := rfl
  simp only [b50, cSeq, fLss, hl, w9, W0, cCondT, condK, iteO, cSkip, cBlock, fIx 9 _ _ hl, ha, opRd9, w4, fSubTo h0, opHas h1 h2, hc, w10, cRet, w0]
  rfl
theorem opNo10 (h0 : Nat.ble a l = true) (h1 : Nat.ble (sL l a) 9223372036854775807 = true) (hc : hasP (sL l a) (sB l b a) 1 124 = false) (n : Nat) (x1 x2 x4 x7 x9 x10 x11 x12 x13 x14 x15 : AV) :
    b50 (evF envA 100000 (n + 1)) 100000 ⟨⟨.int .i64 (.ofNat 10), x1, x2, .int .i64 (.ofNat a), x4, .slice ⟨.d0, .d0, .d0, .d0⟩ 0 0 17 1, .str l b, x7, .int .i64 (.ofNat 17), x9, x10, x11, x12, x13, x14, x15⟩, fe, fe, fe, fe, fe, fe, fe, fe, fe, fe, fe, fe, fe, fe, fe⟩ [] hOps = .nrm ⟨⟨.int .i64 (.ofNat 11), x1, x2, .int .i64 (.ofNat a), .str 1 124, .slice ⟨.d0, .d0, .d0, .d0⟩ 0 0 17 1, .str l b, x7, .int .i64 (.ofNat 17), .bool true, .bool false, x11, x12, x13, x14, x15⟩, fe, fe, fe, fe, fe, fe, fe, fe, fe, fe, fe, fe, fe, fe, fe⟩ [] hOps := by
  have hl : Nat.ble (Nat.succ 10) 17 = true := rfl
  have h2 : Nat.ble 1 9223372036854775807 = true := rfl
  have ha : Nat.add 0 10 = 10 := rfl
  simp only [b50, cSeq, fLss, hl, w9, W0, cCondT, condK, iteO, cSkip, cBlock, fIx 10 _ _ hl, ha, opRd10, w4, fSubTo h0, opHas h1 h2, hc, w10, cRet, w0]
  rfl
theorem opNo11 (h0 : Nat.ble a l = true) (h1 : Nat.ble (sL l a) 9223372036854775807 = true) (hc : hasP (sL l a) (sB l b a) 1 38 = false) (n : Nat) (x1 x2 x4 x7 x9 x10 x11 x12 x13 x14 x15 : AV) :
    b50 (evF envA 100000 (n + 1)) 100000 ⟨⟨.int .i64 (.ofNat 11), x1, x2, .int .i64 (.ofNat a), x4, .slice ⟨.d0, .d0, .d0, .d0⟩ 0 0 17 1, .str l b, x7, .int .i64 (.ofNat 17), x9, x10, x11, x12, x13, x14, x15⟩, fe, fe, fe, fe, fe, fe, fe, fe, fe, fe, fe, fe, fe, fe, fe⟩ [] hOps = .nrm ⟨⟨.int .i64 (.ofNat 12), x1, x2, .int .i64 (.ofNat a), .str 1 38, .slice ⟨.d0, .d0, .d0, .d0⟩ 0 0 17 1, .str l b, x7, .int .i64 (.ofNat 17), .bool true, .bool false, x11, x12, x13, x14, x15⟩, fe, fe, fe, fe, fe, fe, fe, fe, fe, fe, fe, fe, fe, fe, fe⟩ [] hOps := by
  have hl : Nat.ble (Nat.succ 11) 17 = true := rfl
  have h2 : Nat.ble 1 9223372036854775807 = true := rfl
  have ha : Nat.add 0 11 = 11 := rfl
  simp only [b50, cSeq, fLss, hl, w9, W0, cCondT, condK, iteO, cSkip, cBlock, fIx 11 _ _ hl, ha, opRd11, w4, fSubTo h0, opHas h1 h2, hc, w10, cRet, w0]
  rfl
theorem opNo12 (h0 : Nat.ble a l = true) (h1 : Nat.ble (sL l a) 9223372036854775807 = true) (hc : hasP (sL l a) (sB l b a) 1 40 = false) (n : Nat) (x1 x2 x4 x7 x9 x10 x11 x12 x13 x14 x15 : AV) :
    b50 (evF envA 100000 (n + 1)) 100000 ⟨⟨.int .i64 (.ofNat 12), x1, x2, .int .i64 (.ofNat a), x4, .slice ⟨.d0, .d0, .d0, .d0⟩ 0 0 17 1, .str l b, x7, .int .i64 (.ofNat 17), x9, x10, x11, x12, x13, x14, x15⟩, fe, fe, fe, fe, fe, fe, fe, fe, fe, fe, fe, fe, fe, fe, fe⟩ [] hOps = .nrm ⟨⟨.int .i64 (.ofNat 13), x1, x2, .int .i64 (.ofNat a), .str 1 40, .slice ⟨.d0, .d0, .d0, .d0⟩ 0 0 17 1, .str l b, x7, .int .i64 (.ofNat 17), .bool true, .bool false, x11, x12, x13, x14, x15⟩, fe, fe, fe, fe, fe, fe, fe, fe, fe, fe, fe, fe, fe, fe, fe⟩ [] hOps := by
  have hl : Nat.ble (Nat.succ 12) 17 = true := rfl
  have h2 : Nat.ble 1 9223372036854775807 = true := rfl
  have ha : Nat.add 0 12 = 12 := rfl
  simp only [b50, cSeq, fLss, hl, w9, W0, cCondT, condK, iteO, cSkip, cBlock, fIx 12 _ _ hl, ha, opRd12, w4, fSubTo h0, opHas h1 h2, hc, w10, cRet, w0]
  rfl
theorem opNo13 (h0 : Nat.ble a l = true) (h1 : Nat.ble (sL l a) 9223372036854775807 = true) (hc : hasP (sL l a) (sB l b a) 1 41 = false) (n : Nat) (x1 x2 x4 x7 x9 x10 x11 x12 x13 x14 x15 : AV) :
    b50 (evF envA 100000 (n + 1)) 100000 ⟨⟨.int .i64 (.ofNat 13), x1, x2, .int .i64 (.ofNat a), x4, .slice ⟨.d0, .d0, .d0, .d0⟩ 0 0 17 1, .str l b, x7, .int .i64 (.ofNat 17), x9, x10, x11, x12, x13, x14, x15⟩, fe, fe, fe, fe, fe, fe, fe, fe, fe, fe, fe, fe, fe, fe, fe⟩ [] hOps = .nrm ⟨⟨.int .i64 (.ofNat 14), x1, x2, .int .i64 (.ofNat a), .str 1 41, .slice ⟨.d0, .d0, .d0, .d0⟩ 0 0 17 1, .str l b, x7, .int .i64 (.ofNat 17), .bool true, .bool false, x11, x12, x13, x14, x15⟩, fe, fe, fe, fe, fe, fe, fe, fe, fe, fe, fe, fe, fe, fe, fe⟩ [] hOps := by
  have hl : Nat.ble (Nat.succ 13) 17 = true := rfl
  have h2 : Nat.ble 1 9223372036854775807 = true := rfl
  have ha : Nat.add 0 13 = 13 := rfl
  simp only [b50, cSeq, fLss, hl, w9, W0, cCondT, condK, iteO, cSkip, cBlock, fIx 13 _ _ hl, ha, opRd13, w4, fSubTo h0, opHas h1 h2, hc, w10, cRet, w0]
  rfl
theorem opNo14 (h0 : Nat.ble a l = true) (h1 : Nat.ble (sL l a) 9223372036854775807 = true) (hc : hasP (sL l a) (sB l b a) 1 60 = false) (n : Nat) (x1 x2 x4 x7 x9 x10 x11 x12 x13 x14 x15 : AV) :
    b50 (evF envA 100000 (n + 1)) 100000 ⟨⟨.int .i64 (.ofNat 14), x1, x2, .int .i64 (.ofNat a), x4, .slice ⟨.d0, .d0, .d0, .d0⟩ 0 0 17 1, .str l b, x7, .int .i64 (.ofNat 17), x9, x10, x11, x12, x13, x14, x15⟩, fe, fe, fe, fe, fe, fe, fe, fe, fe, fe, fe, fe, fe, fe, fe⟩ [] hOps = .nrm ⟨⟨.int .i64 (.ofNat 15), x1, x2, .int .i64 (.ofNat a), .str 1 60, .slice ⟨.d0, .d0, .d0, .d0⟩ 0 0 17 1, .str l b, x7, .int .i64 (.ofNat 17), .bool true, .bool false, x11, x12, x13, x14, x15⟩, fe, fe, fe, fe, fe, fe, fe, fe, fe, fe, fe, fe, fe, fe, fe⟩ [] hOps := by
  have hl : Nat.ble (Nat.succ 14) 17 = true := rfl
  have h2 : Nat.ble 1 9223372036854775807 = true := rfl
  have ha : Nat.add 0 14 = 14 := rfl
  simp only [b50, cSeq, fLss, hl, w9, W0, cCondT, condK, iteO, cSkip, cBlock, fIx 14 _ _ hl, ha, opRd14, w4, fSubTo h0, opHas h1 h2, hc, w10, cRet, w0]
  rfl
theorem opNo15 (h0 : Nat.ble a l = true) (h1 : Nat.ble (sL l a) 9223372036854775807 = true) (hc : hasP (sL l a) (sB l b a) 1 62 = false) (n : Nat) (x1 x2 x4 x7 x9 x10 x11 x12 x13 x14 x15 : AV) :
    b50 (evF envA 100000 (n + 1)) 100000 ⟨⟨.int .i64 (.ofNat 15), x1, x2, .int .i64 (.ofNat a), x4, .slice ⟨.d0, .d0, .d0, .d0⟩ 0 0 17 1, .str l b, x7, .int .i64 (.ofNat 17), x9, x10, x11, x12, x13, x14, x15⟩, fe, fe, fe, fe, fe, fe, fe, fe, fe, fe, fe, fe, fe, fe, fe⟩ [] hOps = .nrm ⟨⟨.int .i64 (.ofNat 16), x1, x2, .int .i64 (.ofNat a), .str 1 62, .slice ⟨.d0, .d0, .d0, .d0⟩ 0 0 17 1, .str l b, x7, .int .i64 (.ofNat 17), .bool true, .bool false, x11, x12, x13, x14, x15⟩, fe, fe, fe, fe, fe, fe, fe, fe, fe, fe, fe, fe, fe, fe, fe⟩ [] hOps := by
  have hl : Nat.ble (Nat.succ 15) 17 = true := rfl
  have h2 : Nat.ble 1 9223372036854775807 = true := rfl
  have ha : Nat.add 0 15 = 15 := rfl
  simp only [b50, cSeq, fLss, hl, w9, W0, cCondT, condK, iteO, cSkip, cBlock, fIx 15 _ _ hl, ha, opRd15, w4, fSubTo h0, opHas h1 h2, hc, w10, cRet, w0]
  rfl
theorem opNo16 (h0 : Nat.ble a l = true) (h1 : Nat.ble (sL l a) 9223372036854775807 = true) (hc : hasP (sL l a) (sB l b a) 1 10 = false) (n : Nat) (x1 x2 x4 x7 x9 x10 x11 x12 x13 x14 x15 : AV) :
    b50 (evF envA 100000 (n + 1)) 100000 ⟨⟨.int .i64 (.ofNat 16), x1, x2, .int .i64 (.ofNat a), x4, .slice ⟨.d0, .d0, .d0, .d0⟩ 0 0 17 1, .str l b, x7, .int .i64 (.ofNat 17), x9, x10, x11, x12, x13, x14, x15⟩, fe, fe, fe, fe, fe, fe, fe, fe, fe, fe, fe, fe, fe, fe, fe⟩ [] hOps = .nrm ⟨⟨.int .i64 (.ofNat 17), x1, x2, .int .i64 (.ofNat a), .str 1 10, .slice ⟨.d0, .d0, .d0, .d0⟩ 0 0 17 1, .str l b, x7, .int .i64 (.ofNat 17), .bool true, .bool false, x11, x12, x13, x14, x15⟩, fe, fe, fe, fe, fe, fe, fe, fe, fe, fe, fe, fe, fe, fe, fe⟩ [] hOps := by
  have hl : Nat.ble (Nat.succ 16) 17 = true := rfl
  have h2 : Nat.ble 1 9223372036854775807 = true := rfl
  have ha : Nat.add 0 16 = 16 := rfl
  simp only [b50, cSeq, fLss, hl, w9, W0, cCondT, condK, iteO, cSkip, cBlock, fIx 16 _ _ hl, ha, opRd16, w4, fSubTo h0, opHas h1 h2, hc, w10, cRet, w0]
  rfl
theorem opYes0 (h0 : Nat.ble a l = true) (h1 : Nat.ble (sL l a) 9223372036854775807 = true) (hc : hasP (sL l a) (sB l b a) 2 15163 = true) (n : Nat) (x1 x2 x4 x7 x9 x10 x11 x12 x13 x14 x15 : AV) :
    b50 (evF envA 100000 (n + 1)) 100000 ⟨⟨.int .i64 (.ofNat 0), x1, x2, .int .i64 (.ofNat a), x4, .slice ⟨.d0, .d0, .d0, .d0⟩ 0 0 17 1, .str l b, x7, .int .i64 (.ofNat 17), x9, x10, x11, x12, x13, x14, x15⟩, fe, fe, fe, fe, fe, fe, fe, fe, fe, fe, fe, fe, fe, fe, fe⟩ [] hOps = .ret ⟨⟨.int .i64 (.ofNat 0), .str 2 15163, .bool true, .int .i64 (.ofNat a), .str 2 15163, .slice ⟨.d0, .d0, .d0, .d0⟩ 0 0 17 1, .str l b, x7, .int .i64 (.ofNat 17), .bool true, .bool true, x11, x12, x13, x14, x15⟩, fe, fe, fe, fe, fe, fe, fe, fe, fe, fe, fe, fe, fe, fe, fe⟩ [] hOps := by
  have hl : Nat.ble (Nat.succ 0) 17 = true := rfl
  have h2 : Nat.ble 2 9223372036854775807 = true := rfl
  have ha : Nat.add 0 0 = 0 := rfl
  simp only [b50, cSeq, fLss, hl, w9, W0, cCondT, condK, iteO, cSkip, cBlock, fIx 0 _ _ hl, ha, opRd0, w4, fSubTo h0, opHas h1 h2, hc, w10, cRet, w0, w1, w2]
theorem opYes1 (h0 : Nat.ble a l = true) (h1 : Nat.ble (sL l a) 9223372036854775807 = true) (hc : hasP (sL l a) (sB l b a) 2 9766 = true) (n : Nat) (x1 x2 x4 x7 x9 x10 x11 x12 x13 x14 x15 : AV) :
    b50 (evF envA 100000 (n + 1)) 100000 ⟨⟨.int .i64 (.ofNat 1), x1, x2, .int .i64 (.ofNat a), x4, .slice ⟨.d0, .d0, .d0, .d0⟩ 0 0 17 1, .str l b, x7, .int .i64 (.ofNat 17), x9, x10, x11, x12, x13, x14, x15⟩, fe, fe, fe, fe, fe, fe, fe, fe, fe, fe, fe, fe, fe, fe, fe⟩ [] hOps = .ret ⟨⟨.int .i64 (.ofNat 1), .str 2 9766, .bool true, .int .i64 (.ofNat a), .str 2 9766, .slice ⟨.d0, .d0, .d0, .d0⟩ 0 0 17 1, .str l b, x7, .int .i64 (.ofNat 17), .bool true, .bool true, x11, x12, x13, x14, x15⟩, fe, fe, fe, fe, fe, fe, fe, fe, fe, fe, fe, fe, fe, fe, fe⟩ [] hOps := by
  have hl : Nat.ble (Nat.succ 1) 17 = true := rfl
  have h2 : Nat.ble 2 9223372036854775807 = true := rfl
  have ha : Nat.add 0 1 = 1 := rfl
  simp only [b50, cSeq, fLss, hl, w9, W0, cCondT, condK, iteO, cSkip, cBlock, fIx 1 _ _ hl, ha, opRd1, w4, fSubTo h0, opHas h1 h2, hc, w10, cRet, w0, w1, w2]
theorem opYes2 (h0 : Nat.ble a l = true) (h1 : Nat.ble (sL l a) 9223372036854775807 = true) (hc : hasP (sL l a) (sB l b a) 2 31868 = true) (n : Nat) (x1 x2 x4 x7 x9 x10 x11 x12 x13 x14 x15 : AV) :
    b50 (evF envA 100000 (n + 1)) 100000 ⟨⟨.int .i64 (.ofNat 2), x1, x2, .int .i64 (.ofNat a), x4, .slice ⟨.d0, .d0, .d0, .d0⟩ 0 0 17 1, .str l b, x7, .int .i64 (.ofNat 17), x9, x10, x11, x12, x13, x14, x15⟩, fe, fe, fe, fe, fe, fe, fe, fe, fe, fe, fe, fe, fe, fe, fe⟩ [] hOps = .ret ⟨⟨.int .i64 (.ofNat 2), .str 2 31868, .bool true, .int .i64 (.ofNat a), .str 2 31868, .slice ⟨.d0, .d0, .d0, .d0⟩ 0 0 17 1, .str l b, x7, .int .i64 (.ofNat 17), .bool true, .bool true, x11, x12, x13, x14, x15⟩, fe, fe, fe, fe, fe, fe, fe, fe, fe, fe, fe, fe, fe, fe, fe⟩ [] hOps := by
  have hl : Nat.ble (Nat.succ 2) 17 = true := rfl
  have h2 : Nat.ble 2 9223372036854775807 = true := rfl
  have ha : Nat.add 0 2 = 2 := rfl
  simp only [b50, cSeq, fLss, hl, w9, W0, cCondT, condK, iteO, cSkip, cBlock, fIx 2 _ _ hl, ha, opRd2, w4, fSubTo h0, opHas h1 h2, hc, w10, cRet, w0, w1, w2]
theorem opYes3 (h0 : Nat.ble a l = true) (h1 : Nat.ble (sL l a) 9223372036854775807 = true) (hc : hasP (sL l a) (sB l b a) 2 15934 = true) (n : Nat) (x1 x2 x4 x7 x9 x10 x11 x12 x13 x14 x15 : AV) :
    b50 (evF envA 100000 (n + 1)) 100000 ⟨⟨.int .i64 (.ofNat 3), x1, x2, .int .i64 (.ofNat a), x4, .slice ⟨.d0, .d0, .d0, .d0⟩ 0 0 17 1, .str l b, x7, .int .i64 (.ofNat 17), x9, x10, x11, x12, x13, x14, x15⟩, fe, fe, fe, fe, fe, fe, fe, fe, fe, fe, fe, fe, fe, fe, fe⟩ [] hOps = .ret ⟨⟨.int .i64 (.ofNat 3), .str 2 15934, .bool true, .int .i64 (.ofNat a), .str 2 15934, .slice ⟨.d0, .d0, .d0, .d0⟩ 0 0 17 1, .str l b, x7, .int .i64 (.ofNat 17), .bool true, .bool true, x11, x12, x13, x14, x15⟩, fe, fe, fe, fe, fe, fe, fe, fe, fe, fe, fe, fe, fe, fe, fe⟩ [] hOps := by
  have hl : Nat.ble (Nat.succ 3) 17 = true := rfl
  have h2 : Nat.ble 2 9223372036854775807 = true := rfl
  have ha : Nat.add 0 3 = 3 := rfl
  simp only [b50, cSeq, fLss, hl, w9, W0, cCondT, condK, iteO, cSkip, cBlock, fIx 3 _ _ hl, ha, opRd3, w4, fSubTo h0, opHas h1 h2, hc, w10, cRet, w0, w1, w2]
theorem opYes4 (h0 : Nat.ble a l = true) (h1 : Nat.ble (sL l a) 9223372036854775807 = true) (hc : hasP (sL l a) (sB l b a) 2 15420 = true) (n : Nat) (x1 x2 x4 x7 x9 x10 x11 x12 x13 x14 x15 : AV) :
    b50 (evF envA 100000 (n + 1)) 100000 ⟨⟨.int .i64 (.ofNat 4), x1, x2, .int .i64 (.ofNat a), x4, .slice ⟨.d0, .d0, .d0, .d0⟩ 0 0 17 1, .str l b, x7, .int .i64 (.ofNat 17), x9, x10, x11, x12, x13, x14, x15⟩, fe, fe, fe, fe, fe, fe, fe, fe, fe, fe, fe, fe, fe, fe, fe⟩ [] hOps = .ret ⟨⟨.int .i64 (.ofNat 4), .str 2 15420, .bool true, .int .i64 (.ofNat a), .str 2 15420, .slice ⟨.d0, .d0, .d0, .d0⟩ 0 0 17 1, .str l b, x7, .int .i64 (.ofNat 17), .bool true, .bool true, x11, x12, x13, x14, x15⟩, fe, fe, fe, fe, fe, fe, fe, fe, fe, fe, fe, fe, fe, fe, fe⟩ [] hOps := by
  have hl : Nat.ble (Nat.succ 4) 17 = true := rfl
  have h2 : Nat.ble 2 9223372036854775807 = true := rfl
  have ha : Nat.add 0 4 = 4 := rfl
  simp only [b50, cSeq, fLss, hl, w9, W0, cCondT, condK, iteO, cSkip, cBlock, fIx 4 _ _ hl, ha, opRd4, w4, fSubTo h0, opHas h1 h2, hc, w10, cRet, w0, w1, w2]
theorem opYes5 (h0 : Nat.ble a l = true) (h1 : Nat.ble (sL l a) 9223372036854775807 = true) (hc : hasP (sL l a) (sB l b a) 2 9788 = true) (n : Nat) (x1 x2 x4 x7 x9 x10 x11 x12 x13 x14 x15 : AV) :
    b50 (evF envA 100000 (n + 1)) 100000 ⟨⟨.int .i64 (.ofNat 5), x1, x2, .int .i64 (.ofNat a), x4, .slice ⟨.d0, .d0, .d0, .d0⟩ 0 0 17 1, .str l b, x7, .int .i64 (.ofNat 17), x9, x10, x11, x12, x13, x14, x15⟩, fe, fe, fe, fe, fe, fe, fe, fe, fe, fe, fe, fe, fe, fe, fe⟩ [] hOps = .ret ⟨⟨.int .i64 (.ofNat 5), .str 2 9788, .bool true, .int .i64 (.ofNat a), .str 2 9788, .slice ⟨.d0, .d0, .d0, .d0⟩ 0 0 17 1, .str l b, x7, .int .i64 (.ofNat 17), .bool true, .bool true, x11, x12, x13, x14, x15⟩, fe, fe, fe, fe, fe, fe, fe, fe, fe, fe, fe, fe, fe, fe, fe⟩ [] hOps := by
  have hl : Nat.ble (Nat.succ 5) 17 = true := rfl
  have h2 : Nat.ble 2 9223372036854775807 = true := rfl
  have ha : Nat.add 0 5 = 5 := rfl
  simp only [b50, cSeq, fLss, hl, w9, W0, cCondT, condK, iteO, cSkip, cBlock, fIx 5 _ _ hl, ha, opRd5, w4, fSubTo h0, opHas h1 h2, hc, w10, cRet, w0, w1, w2]
theorem opYes6 (h0 : Nat.ble a l = true) (h1 : Nat.ble (sL l a) 9223372036854775807 = true) (hc : hasP (sL l a) (sB l b a) 2 9790 = true) (n : Nat) (x1 x2 x4 x7 x9 x10 x11 x12 x13 x14 x15 : AV) :
    b50 (evF envA 100000 (n + 1)) 100000 ⟨⟨.int .i64 (.ofNat 6), x1, x2, .int .i64 (.ofNat a), x4, .slice ⟨.d0, .d0, .d0, .d0⟩ 0 0 17 1, .str l b, x7, .int .i64 (.ofNat 17), x9, x10, x11, x12, x13, x14, x15⟩, fe, fe, fe, fe, fe, fe, fe, fe, fe, fe, fe, fe, fe, fe, fe⟩ [] hOps = .ret ⟨⟨.int .i64 (.ofNat 6), .str 2 9790, .bool true, .int .i64 (.ofNat a), .str 2 9790, .slice ⟨.d0, .d0, .d0, .d0⟩ 0 0 17 1, .str l b, x7, .int .i64 (.ofNat 17), .bool true, .bool true, x11, x12, x13, x14, x15⟩, fe, fe, fe, fe, fe, fe, fe, fe, fe, fe, fe, fe, fe, fe, fe⟩ [] hOps := by
  have hl : Nat.ble (Nat.succ 6) 17 = true := rfl
  have h2 : Nat.ble 2 9223372036854775807 = true := rfl
  have ha : Nat.add 0 6 = 6 := rfl
  simp only [b50, cSeq, fLss, hl, w9, W0, cCondT, condK, iteO, cSkip, cBlock, fIx 6 _ _ hl, ha, opRd6, w4, fSubTo h0, opHas h1 h2, hc, w10, cRet, w0, w1, w2]
theorem opYes7 (h0 : Nat.ble a l = true) (h1 : Nat.ble (sL l a) 9223372036854775807 = true) (hc : hasP (sL l a) (sB l b a) 2 15932 = true) (n : Nat) (x1 x2 x4 x7 x9 x10 x11 x12 x13 x14 x15 : AV) :
    b50 (evF envA 100000 (n + 1)) 100000 ⟨⟨.int .i64 (.ofNat 7), x1, x2, .int .i64 (.ofNat a), x4, .slice ⟨.d0, .d0, .d0, .d0⟩ 0 0 17 1, .str l b, x7, .int .i64 (.ofNat 17), x9, x10, x11, x12, x13, x14, x15⟩, fe, fe, fe, fe, fe, fe, fe, fe, fe, fe, fe, fe, fe, fe, fe⟩ [] hOps = .ret ⟨⟨.int .i64 (.ofNat 7), .str 2 15932, .bool true, .int .i64 (.ofNat a), .str 2 15932, .slice ⟨.d0, .d0, .d0, .d0⟩ 0 0 17 1, .str l b, x7, .int .i64 (.ofNat 17), .bool true, .bool true, x11, x12, x13, x14, x15⟩, fe, fe, fe, fe, fe, fe, fe, fe, fe, fe, fe, fe, fe, fe, fe⟩ [] hOps := by
  have hl : Nat.ble (Nat.succ 7) 17 = true := rfl
  have h2 : Nat.ble 2 9223372036854775807 = true := rfl
  have ha : Nat.add 0 7 = 7 := rfl
  simp only [b50, cSeq, fLss, hl, w9, W0, cCondT, condK, iteO, cSkip, cBlock, fIx 7 _ _ hl, ha, opRd7, w4, fSubTo h0, opHas h1 h2, hc, w10, cRet, w0, w1, w2]
theorem opYes8 (h0 : Nat.ble a l = true) (h1 : Nat.ble (sL l a) 9223372036854775807 = true) (hc : hasP (sL l a) (sB l b a) 2 31806 = true) (n : Nat) (x1 x2 x4 x7 x9 x10 x11 x12 x13 x14 x15 : AV) :
    b50 (evF envA 100000 (n + 1)) 100000 ⟨⟨.int .i64 (.ofNat 8), x1, x2, .int .i64 (.ofNat a), x4, .slice ⟨.d0, .d0, .d0, .d0⟩ 0 0 17 1, .str l b, x7, .int .i64 (.ofNat 17), x9, x10, x11, x12, x13, x14, x15⟩, fe, fe, fe, fe, fe, fe, fe, fe, fe, fe, fe, fe, fe, fe, fe⟩ [] hOps = .ret ⟨⟨.int .i64 (.ofNat 8), .str 2 31806, .bool true, .int .i64 (.ofNat a), .str 2 31806, .slice ⟨.d0, .d0, .d0, .d0⟩ 0 0 17 1, .str l b, x7, .int .i64 (.ofNat 17), .bool true, .bool true, x11, x12, x13, x14, x15⟩, fe, fe, fe, fe, fe, fe, fe, fe, fe, fe, fe, fe, fe, fe, fe⟩ [] hOps := by
  have hl : Nat.ble (Nat.succ 8) 17 = true := rfl
  have h2 : Nat.ble 2 9223372036854775807 = true := rfl
  have ha : Nat.add 0 8 = 8 := rfl
  simp only [b50, cSeq, fLss, hl, w9, W0, cCondT, condK, iteO, cSkip, cBlock, fIx 8 _ _ hl, ha, opRd8, w4, fSubTo h0, opHas h1 h2, hc, w10, cRet, w0, w1, w2]
theorem opYes9 (h0 : Nat.ble a l = true) (h1 : Nat.ble (sL l a) 9223372036854775807 = true) (hc : hasP (sL l a) (sB l b a) 1 59 = true) (n : Nat) (x1 x2 x4 x7 x9 x10 x11 x12 x13 x14 x15 : AV) :
    b50 (evF envA 100000 (n + 1)) 100000 ⟨⟨.int .i64 (.ofNat 9), x1, x2, .int .i64 (.ofNat a), x4, .slice ⟨.d0, .d0, .d0, .d0⟩ 0 0 17 1, .str l b, x7, .int .i64 (.ofNat 17), x9, x10, x11, x12, x13, x14, x15⟩, fe, fe, fe, fe, fe, fe, fe, fe, fe, fe, fe, fe, fe, fe, fe⟩ [] hOps = .ret ⟨⟨.int .i64 (.ofNat 9), .str 1 59, .bool true, .int .i64 (.ofNat a), .str 1 59, .slice ⟨.d0, .d0, .d0, .d0⟩ 0 0 17 1, .str l b, x7, .int .i64 (.ofNat 17), .bool true, .bool true, x11, x12, x13, x14, x15⟩, fe, fe, fe, fe, fe, fe, fe, fe, fe, fe, fe, fe, fe, fe, fe⟩ [] hOps := by
  have hl : Nat.ble (Nat.succ 9) 17 = true := rfl
  have h2 : Nat.ble 1 9223372036854775807 = true := rfl
  have ha : Nat.add 0 9 = 9 := rfl
  simp only [b50, cSeq, fLss, hl, w9, W0, cCondT, condK, iteO, cSkip, cBlock, fIx 9 _ _ hl, ha, opRd9, w4, fSubTo h0, opHas h1 h2, hc, w10, cRet, w0, w1, w2]
theorem opYes10 (h0 : Nat.ble a l = true) (h1 : Nat.ble (sL l a) 9223372036854775807 = true) (hc : hasP (sL l a) (sB l b a) 1 124 = true) (n : Nat) (x1 x2 x4 x7 x9 x10 x11 x12 x13 x14 x15 : AV) :
    b50 (evF envA 100000 (n + 1)) 100000 ⟨⟨.int .i64 (.ofNat 10), x1, x2, .int .i64 (.ofNat a), x4, .slice ⟨.d0, .d0, .d0, .d0⟩ 0 0 17 1, .str l b, x7, .int .i64 (.ofNat 17), x9, x10, x11, x12, x13, x14, x15⟩, fe, fe, fe, fe, fe, fe, fe, fe, fe, fe, fe, fe, fe, fe, fe⟩ [] hOps = .ret ⟨⟨.int .i64 (.ofNat 10), .str 1 124, .bool true, .int .i64 (.ofNat a), .str 1 124, .slice ⟨.d0, .d0, .d0, .d0⟩ 0 0 17 1, .str l b, x7, .int .i64 (.ofNat 17), .bool true, .bool true, x11, x12, x13, x14, x15⟩, fe, fe, fe, fe, fe, fe, fe, fe, fe, fe, fe, fe, fe, fe, fe⟩ [] hOps := by
  have hl : Nat.ble (Nat.succ 10) 17 = true := rfl
  have h2 : Nat.ble 1 9223372036854775807 = true := rfl
  have ha : Nat.add 0 10 = 10 := rfl
  simp only [b50, cSeq, fLss, hl, w9, W0, cCondT, condK, iteO, cSkip, cBlock, fIx 10 _ _ hl, ha, opRd10, w4, fSubTo h0, opHas h1 h2, hc, w10, cRet, w0, w1, w2]
theorem opYes11 (h0 : Nat.ble a l = true) (h1 : Nat.ble (sL l a) 9223372036854775807 = true) (hc : hasP (sL l a) (sB l b a) 1 38 = true) (n : Nat) (x1 x2 x4 x7 x9 x10 x11 x12 x13 x14 x15 : AV) :
    b50 (evF envA 100000 (n + 1)) 100000 ⟨⟨.int .i64 (.ofNat 11), x1, x2, .int .i64 (.ofNat a), x4, .slice ⟨.d0, .d0, .d0, .d0⟩ 0 0 17 1, .str l b, x7, .int .i64 (.ofNat 17), x9, x10, x11, x12, x13, x14, x15⟩, fe, fe, fe, fe, fe, fe, fe, fe, fe, fe, fe, fe, fe, fe, fe⟩ [] hOps = .ret ⟨⟨.int .i64 (.ofNat 11), .str 1 38, .bool true, .int .i64 (.ofNat a), .str 1 38, .slice ⟨.d0, .d0, .d0, .d0⟩ 0 0 17 1, .str l b, x7, .int .i64 (.ofNat 17), .bool true, .bool true, x11, x12, x13, x14, x15⟩, fe, fe, fe, fe, fe, fe, fe, fe, fe, fe, fe, fe, fe, fe, fe⟩ [] hOps := by
  have hl : Nat.ble (Nat.succ 11) 17 = true := rfl
  have h2 : Nat.ble 1 9223372036854775807 = true := rfl
  have ha : Nat.add 0 11 = 11 := rfl
  simp only [b50, cSeq, fLss, hl, w9, W0, cCondT, condK, iteO, cSkip, cBlock, fIx 11 _ _ hl, ha, opRd11, w4, fSubTo h0, opHas h1 h2, hc, w10, cRet, w0, w1, w2]
theorem opYes12 (h0 : Nat.ble a l = true) (h1 : Nat.ble (sL l a) 9223372036854775807 = true) (hc : hasP (sL l a) (sB l b a) 1 40 = true) (n : Nat) (x1 x2 x4 x7 x9 x10 x11 x12 x13 x14 x15 : AV) :
    b50 (evF envA 100000 (n + 1)) 100000 ⟨⟨.int .i64 (.ofNat 12), x1, x2, .int .i64 (.ofNat a), x4, .slice ⟨.d0, .d0, .d0, .d0⟩ 0 0 17 1, .str l b, x7, .int .i64 (.ofNat 17), x9, x10, x11, x12, x13, x14, x15⟩, fe, fe, fe, fe, fe, fe, fe, fe, fe, fe, fe, fe, fe, fe, fe⟩ [] hOps = .ret ⟨⟨.int .i64 (.ofNat 12), .str 1 40, .bool true, .int .i64 (.ofNat a), .str 1 40, .slice ⟨.d0, .d0, .d0, .d0⟩ 0 0 17 1, .str l b, x7, .int .i64 (.ofNat 17), .bool true, .bool true, x11, x12, x13, x14, x15⟩, fe, fe, fe, fe, fe, fe, fe, fe, fe, fe, fe, fe, fe, fe, fe⟩ [] hOps := by
  have hl : Nat.ble (Nat.succ 12) 17 = true := rfl
  have h2 : Nat.ble 1 9223372036854775807 = true := rfl
  have ha : Nat.add 0 12 = 12 := rfl
  simp only [b50, cSeq, fLss, hl, w9, W0, cCondT, condK, iteO, cSkip, cBlock, fIx 12 _ _ hl, ha, opRd12, w4, fSubTo h0, opHas h1 h2, hc, w10, cRet, w0, w1, w2]
theorem opYes13 (h0 : Nat.ble a l = true) (h1 : Nat.ble (sL l a) 9223372036854775807 = true) (hc : hasP (sL l a) (sB l b a) 1 41 = true) (n : Nat) (x1 x2 x4 x7 x9 x10 x11 x12 x13 x14 x15 : AV) :
    b50 (evF envA 100000 (n + 1)) 100000 ⟨⟨.int .i64 (.ofNat 13), x1, x2, .int .i64 (.ofNat a), x4, .slice ⟨.d0, .d0, .d0, .d0⟩ 0 0 17 1, .str l b, x7, .int .i64 (.ofNat 17), x9, x10, x11, x12, x13, x14, x15⟩, fe, fe, fe, fe, fe, fe, fe, fe, fe, fe, fe, fe, fe, fe, fe⟩ [] hOps = .ret ⟨⟨.int .i64 (.ofNat 13), .str 1 41, .bool true, .int .i64 (.ofNat a), .str 1 41, .slice ⟨.d0, .d0, .d0, .d0⟩ 0 0 17 1, .str l b, x7, .int .i64 (.ofNat 17), .bool true, .bool true, x11, x12, x13, x14, x15⟩, fe, fe, fe, fe, fe, fe, fe, fe, fe, fe, fe, fe, fe, fe, fe⟩ [] hOps := by
  have hl : Nat.ble (Nat.succ 13) 17 = true := rfl
  have h2 : Nat.ble 1 9223372036854775807 = true := rfl
  have ha : Nat.add 0 13 = 13 := rfl
  simp only [b50, cSeq, fLss, hl, w9, W0, cCondT, condK, iteO, cSkip, cBlock, fIx 13 _ _ hl, ha, opRd13, w4, fSubTo h0, opHas h1 h2, hc, w10, cRet, w0, w1, w2]
theorem opYes14 (h0 : Nat.ble a l = true) (h1 : Nat.ble (sL l a) 9223372036854775807 = true) (hc : hasP (sL l a) (sB l b a) 1 60 = true) (n : Nat) (x1 x2 x4 x7 x9 x10 x11 x12 x13 x14 x15 : AV) :
    b50 (evF envA 100000 (n + 1)) 100000 ⟨⟨.int .i64 (.ofNat 14), x1, x2, .int .i64 (.ofNat a), x4, .slice ⟨.d0, .d0, .d0, .d0⟩ 0 0 17 1, .str l b, x7, .int .i64 (.ofNat 17), x9, x10, x11, x12, x13, x14, x15⟩, fe, fe, fe, fe, fe, fe, fe, fe, fe, fe, fe, fe, fe, fe, fe⟩ [] hOps = .ret ⟨⟨.int .i64 (.ofNat 14), .str 1 60, .bool true, .int .i64 (.ofNat a), .str 1 60, .slice ⟨.d0, .d0, .d0, .d0⟩ 0 0 17 1, .str l b, x7, .int .i64 (.ofNat 17), .bool true, .bool true, x11, x12, x13, x14, x15⟩, fe, fe, fe, fe, fe, fe, fe, fe, fe, fe, fe, fe, fe, fe, fe⟩ [] hOps := by
  have hl : Nat.ble (Nat.succ 14) 17 = true := rfl
  have h2 : Nat.ble 1 9223372036854775807 = true := rfl
  have ha : Nat.add 0 14 = 14 := rfl
  simp only [b50, cSeq, fLss, hl, w9, W0, cCondT, condK, iteO, cSkip, cBlock, fIx 14 _ _ hl, ha, opRd14, w4, fSubTo h0, opHas h1 h2, hc, w10, cRet, w0, w1, w2]
theorem opYes15 (h0 : Nat.ble a l = true) (h1 : Nat.ble (sL l a) 9223372036854775807 = true) (hc : hasP (sL l a) (sB l b a) 1 62 = true) (n : Nat) (x1 x2 x4 x7 x9 x10 x11 x12 x13 x14 x15 : AV) :
    b50 (evF envA 100000 (n + 1)) 100000 ⟨⟨.int .i64 (.ofNat 15), x1, x2, .int .i64 (.ofNat a), x4, .slice ⟨.d0, .d0, .d0, .d0⟩ 0 0 17 1, .str l b, x7, .int .i64 (.ofNat 17), x9, x10, x11, x12, x13, x14, x15⟩, fe, fe, fe, fe, fe, fe, fe, fe, fe, fe, fe, fe, fe, fe, fe⟩ [] hOps = .ret ⟨⟨.int .i64 (.ofNat 15), .str 1 62, .bool true, .int .i64 (.ofNat a), .str 1 62, .slice ⟨.d0, .d0, .d0, .d0⟩ 0 0 17 1, .str l b, x7, .int .i64 (.ofNat 17), .bool true, .bool true, x11, x12, x13, x14, x15⟩, fe, fe, fe, fe, fe, fe, fe, fe, fe, fe, fe, fe, fe, fe, fe⟩ [] hOps := by
  have hl : Nat.ble (Nat.succ 15) 17 = true := rfl
  have h2 : Nat.ble 1 9223372036854775807 = true := rfl
  have ha : Nat.add 0 15 = 15 := rfl
  simp only [b50, cSeq, fLss, hl, w9, W0, cCondT, condK, iteO, cSkip, cBlock, fIx 15 _ _ hl, ha, opRd15, w4, fSubTo h0, opHas h1 h2, hc, w10, cRet, w0, w1, w2]
theorem opYes16 (h0 : Nat.ble a l = true) (h1 : Nat.ble (sL l a) 9223372036854775807 = true) (hc : hasP (sL l a) (sB l b a) 1 10 = true) (n : Nat) (x1 x2 x4 x7 x9 x10 x11 x12 x13 x14 x15 : AV) :
    b50 (evF envA 100000 (n + 1)) 100000 ⟨⟨.int .i64 (.ofNat 16), x1, x2, .int .i64 (.ofNat a), x4, .slice ⟨.d0, .d0, .d0, .d0⟩ 0 0 17 1, .str l b, x7, .int .i64 (.ofNat 17), x9, x10, x11, x12, x13, x14, x15⟩, fe, fe, fe, fe, fe, fe, fe, fe, fe, fe, fe, fe, fe, fe, fe⟩ [] hOps = .ret ⟨⟨.int .i64 (.ofNat 16), .str 1 10, .bool true, .int .i64 (.ofNat a), .str 1 10, .slice ⟨.d0, .d0, .d0, .d0⟩ 0 0 17 1, .str l b, x7, .int .i64 (.ofNat 17), .bool true, .bool true, x11, x12, x13, x14, x15⟩, fe, fe, fe, fe, fe, fe, fe, fe, fe, fe, fe, fe, fe, fe, fe⟩ [] hOps := by
  have hl : Nat.ble (Nat.succ 16) 17 = true := rfl
  have h2 : Nat.ble 1 9223372036854775807 = true := rfl
  have ha : Nat.add 0 16 = 16 := rfl
  simp only [b50, cSeq, fLss, hl, w9, W0, cCondT, condK, iteO, cSkip, cBlock, fIx 16 _ _ hl, ha, opRd16, w4, fSubTo h0, opHas h1 h2, hc, w10, cRet, w0, w1, w2]
theorem opEnd (n : Nat) (x1 x2 x4 x7 x9 x10 x11 x12 x13 x14 x15 : AV) :
    b50 (evF envA 100000 (n + 1)) 100000 ⟨⟨.int .i64 (.ofNat 17), x1, x2, .int .i64 (.ofNat a), x4, .slice ⟨.d0, .d0, .d0, .d0⟩ 0 0 17 1, .str l b, x7, .int .i64 (.ofNat 17), x9, x10, x11, x12, x13, x14, x15⟩, fe, fe, fe, fe, fe, fe, fe, fe, fe, fe, fe, fe, fe, fe, fe⟩ [] hOps = .ext 0 ⟨⟨.int .i64 (.ofNat 17), x1, x2, .int .i64 (.ofNat a), x4, .slice ⟨.d0, .d0, .d0, .d0⟩ 0 0 17 1, .str l b, x7, .int .i64 (.ofNat 17), .bool false, x10, x11, x12, x13, x14, x15⟩, fe, fe, fe, fe, fe, fe, fe, fe, fe, fe, fe, fe, fe, fe, fe⟩ [] hOps := by
  have hl : Nat.ble (Nat.succ 17) 17 = false := rfl
  simp only [b50, cSeq, fLss, hl, w9, W0, cCondT, condK, iteO, cSkip, cBlock, cExit]
def opFind (l b a : Nat) (ops : List (Nat × Nat)) : Option (Nat × Nat) := List.rec (motive := fun _ => Option (Nat × Nat)) none (fun o _ ih => Bool.rec (motive := fun _ => Option (Nat × Nat)) ih (some o) (hasP (sL l a) (sB l b a) o.1 o.2)) ops
def OpDone (l b a : Nat) (ops : List (Nat × Nat)) (o : Out) : Prop := ∃ T : Fm, (∃ p, o = .ret T [] hOps ∧ T.c0.c1 = .str p.1 p.2 ∧ T.c0.c2 = .bool true ∧ opFind l b a ops = some p) ∨ (o = .ext 0 T [] hOps ∧ opFind l b a ops = none)
theorem loop_ret {a : Fm → List Dfr → AH → Out} {m : Nat} {T T1 : Fm} {D D1 : List Dfr} {H H1 : AH} (h : a T D H = .ret T1 D1 H1) : cLoopN a (m + 1) T D H = .ret T1 D1 H1 := by
  show Out.rec (motive := fun _ => Out) (cLoopN a m) .ext .ret .fail (a T D H) = _
  rw [h]
theorem loop_ext {a : Fm → List Dfr → AH → Out} {m i : Nat} {T T1 : Fm} {D D1 : List Dfr} {H H1 : AH} (h : a T D H = .ext i T1 D1 H1) : cLoopN a (m + 1) T D H = .ext i T1 D1 H1 := by
  show Out.rec (motive := fun _ => Out) (cLoopN a m) .ext .ret .fail (a T D H) = _
  rw [h]
theorem loop_nrm {a : Fm → List Dfr → AH → Out} {m : Nat} {T T1 : Fm} {D D1 : List Dfr} {H H1 : AH} (h : a T D H = .nrm T1 D1 H1) : cLoopN a (m + 1) T D H = cLoopN a m T1 D1 H1 := by
  show Out.rec (motive := fun _ => Out) (cLoopN a m) .ext .ret .fail (a T D H) = _
  rw [h]
theorem find_yes {o : Nat × Nat} {r : List (Nat × Nat)} (h : hasP (sL l a) (sB l b a) o.1 o.2 = true) : opFind l b a (o :: r) = some o := by
  show Bool.rec (motive := fun _ => Option (Nat × Nat)) (opFind l b a r) (some o) (hasP (sL l a) (sB l b a) o.1 o.2) = _
  rw [h]
theorem find_no {o : Nat × Nat} {r : List (Nat × Nat)} (h : hasP (sL l a) (sB l b a) o.1 o.2 = false) : opFind l b a (o :: r) = opFind l b a r := by
  show Bool.rec (motive := fun _ => Option (Nat × Nat)) (opFind l b a r) (some o) (hasP (sL l a) (sB l b a) o.1 o.2) = _
  rw [h]
theorem opLp17 (m n : Nat) (x1 x2 x4 x7 x9 x10 x11 x12 x13 x14 x15 : AV) : OpDone l b a [] (cLoopN (b50 (evF envA 100000 (n + 1)) 100000) (m + 1) ⟨⟨.int .i64 (.ofNat 17), x1, x2, .int .i64 (.ofNat a), x4, .slice ⟨.d0, .d0, .d0, .d0⟩ 0 0 17 1, .str l b, x7, .int .i64 (.ofNat 17), x9, x10, x11, x12, x13, x14, x15⟩, fe, fe, fe, fe, fe, fe, fe, fe, fe, fe, fe, fe, fe, fe, fe⟩ [] hOps) :=
  ⟨_, .inr ⟨loop_ext (opEnd n x1 x2 x4 x7 x9 x10 x11 x12 x13 x14 x15), rfl⟩⟩
theorem opLp16 (h0 : Nat.ble a l = true) (h1 : Nat.ble (sL l a) 9223372036854775807 = true) (m n : Nat) (x1 x2 x4 x7 x9 x10 x11 x12 x13 x14 x15 : AV) : OpDone l b a [(1, 10)] (cLoopN (b50 (evF envA 100000 (n + 1)) 100000) (m + 2) ⟨⟨.int .i64 (.ofNat 16), x1, x2, .int .i64 (.ofNat a), x4, .slice ⟨.d0, .d0, .d0, .d0⟩ 0 0 17 1, .str l b, x7, .int .i64 (.ofNat 17), x9, x10, x11, x12, x13, x14, x15⟩, fe, fe, fe, fe, fe, fe, fe, fe, fe, fe, fe, fe, fe, fe, fe⟩ [] hOps) := by
  cases hc : hasP (sL l a) (sB l b a) 1 10 with
  | true => exact ⟨_, .inl ⟨(1, 10), loop_ret (opYes16 h0 h1 hc n x1 x2 x4 x7 x9 x10 x11 x12 x13 x14 x15), rfl, rfl, find_yes hc⟩⟩
  | false =>
    have := opLp17 (l := l) (b := b) (a := a) m n x1 x2 (.str 1 10) x7 (.bool true) (.bool false) x11 x12 x13 x14 x15
    rw [← loop_nrm (opNo16 h0 h1 hc n x1 x2 x4 x7 x9 x10 x11 x12 x13 x14 x15)] at this
    obtain ⟨T, h | h⟩ := this
    · obtain ⟨p, e1, e2, e3, e4⟩ := h
      exact ⟨T, .inl ⟨p, e1, e2, e3, (find_no (o := (1, 10)) hc).trans e4⟩⟩
    · exact ⟨T, .inr ⟨h.1, (find_no (o := (1, 10)) hc).trans h.2⟩⟩
theorem opLp15 (h0 : Nat.ble a l = true) (h1 : Nat.ble (sL l a) 9223372036854775807 = true) (m n : Nat) (x1 x2 x4 x7 x9 x10 x11 x12 x13 x14 x15 : AV) : OpDone l b a [(1, 62), (1, 10)] (cLoopN (b50 (evF envA 100000 (n + 1)) 100000) (m + 3) ⟨⟨.int .i64 (.ofNat 15), x1, x2, .int .i64 (.ofNat a), x4, .slice ⟨.d0, .d0, .d0, .d0⟩ 0 0 17 1, .str l b, x7, .int .i64 (.ofNat 17), x9, x10, x11, x12, x13, x14, x15⟩, fe, fe, fe, fe, fe, fe, fe, fe, fe, fe, fe, fe, fe, fe, fe⟩ [] hOps) := by
  cases hc : hasP (sL l a) (sB l b a) 1 62 with
  | true => exact ⟨_, .inl ⟨(1, 62), loop_ret (opYes15 h0 h1 hc n x1 x2 x4 x7 x9 x10 x11 x12 x13 x14 x15), rfl, rfl, find_yes hc⟩⟩
  | false =>
    have := opLp16 (l := l) (b := b) (a := a) h0 h1 m n x1 x2 (.str 1 62) x7 (.bool true) (.bool false) x11 x12 x13 x14 x15
    rw [← loop_nrm (opNo15 h0 h1 hc n x1 x2 x4 x7 x9 x10 x11 x12 x13 x14 x15)] at this
    obtain ⟨T, h | h⟩ := this
    · obtain ⟨p, e1, e2, e3, e4⟩ := h
      exact ⟨T, .inl ⟨p, e1, e2, e3, (find_no (o := (1, 62)) hc).trans e4⟩⟩
    · exact ⟨T, .inr ⟨h.1, (find_no (o := (1, 62)) hc).trans h.2⟩⟩
theorem opLp14 (h0 : Nat.ble a l = true) (h1 : Nat.ble (sL l a) 9223372036854775807 = true) (m n : Nat) (x1 x2 x4 x7 x9 x10 x11 x12 x13 x14 x15 : AV) : OpDone l b a [(1, 60), (1, 62), (1, 10)] (cLoopN (b50 (evF envA 100000 (n + 1)) 100000) (m + 4) ⟨⟨.int .i64 (.ofNat 14), x1, x2, .int .i64 (.ofNat a), x4, .slice ⟨.d0, .d0, .d0, .d0⟩ 0 0 17 1, .str l b, x7, .int .i64 (.ofNat 17), x9, x10, x11, x12, x13, x14, x15⟩, fe, fe, fe, fe, fe, fe, fe, fe, fe, fe, fe, fe, fe, fe, fe⟩ [] hOps) := by
  cases hc : hasP (sL l a) (sB l b a) 1 60 with
  | true => exact ⟨_, .inl ⟨(1, 60), loop_ret (opYes14 h0 h1 hc n x1 x2 x4 x7 x9 x10 x11 x12 x13 x14 x15), rfl, rfl, find_yes hc⟩⟩
  | false =>
    have := opLp15 (l := l) (b := b) (a := a) h0 h1 m n x1 x2 (.str 1 60) x7 (.bool true) (.bool false) x11 x12 x13 x14 x15
    rw [← loop_nrm (opNo14 h0 h1 hc n x1 x2 x4 x7 x9 x10 x11 x12 x13 x14 x15)] at this
    obtain ⟨T, h | h⟩ := this
    · obtain ⟨p, e1, e2, e3, e4⟩ := h
      exact ⟨T, .inl ⟨p, e1, e2, e3, (find_no (o := (1, 60)) hc).trans e4⟩⟩
    · exact ⟨T, .inr ⟨h.1, (find_no (o := (1, 60)) hc).trans h.2⟩⟩
theorem opLp13 (h0 : Nat.ble a l = true) (h1 : Nat.ble (sL l a) 9223372036854775807 = true) (m n : Nat) (x1 x2 x4 x7 x9 x10 x11 x12 x13 x14 x15 : AV) : OpDone l b a [(1, 41), (1, 60), (1, 62), (1, 10)] (cLoopN (b50 (evF envA 100000 (n + 1)) 100000) (m + 5) ⟨⟨.int .i64 (.ofNat 13), x1, x2, .int .i64 (.ofNat a), x4, .slice ⟨.d0, .d0, .d0, .d0⟩ 0 0 17 1, .str l b, x7, .int .i64 (.ofNat 17), x9, x10, x11, x12, x13, x14, x15⟩, fe, fe, fe, fe, fe, fe, fe, fe, fe, fe, fe, fe, fe, fe, fe⟩ [] hOps) := by
  cases hc : hasP (sL l a) (sB l b a) 1 41 with
  | true => exact ⟨_, .inl ⟨(1, 41), loop_ret (opYes13 h0 h1 hc n x1 x2 x4 x7 x9 x10 x11 x12 x13 x14 x15), rfl, rfl, find_yes hc⟩⟩
  | false =>
    have := opLp14 (l := l) (b := b) (a := a) h0 h1 m n x1 x2 (.str 1 41) x7 (.bool true) (.bool false) x11 x12 x13 x14 x15
    rw [← loop_nrm (opNo13 h0 h1 hc n x1 x2 x4 x7 x9 x10 x11 x12 x13 x14 x15)] at this
    obtain ⟨T, h | h⟩ := this
    · obtain ⟨p, e1, e2, e3, e4⟩ := h
      exact ⟨T, .inl ⟨p, e1, e2, e3, (find_no (o := (1, 41)) hc).trans e4⟩⟩
    · exact ⟨T, .inr ⟨h.1, (find_no (o := (1, 41)) hc).trans h.2⟩⟩
theorem opLp12 (h0 : Nat.ble a l = true) (h1 : Nat.ble (sL l a) 9223372036854775807 = true) (m n : Nat) (x1 x2 x4 x7 x9 x10 x11 x12 x13 x14 x15 : AV) : OpDone l b a [(1, 40), (1, 41), (1, 60), (1, 62), (1, 10)] (cLoopN (b50 (evF envA 100000 (n + 1)) 100000) (m + 6) ⟨⟨.int .i64 (.ofNat 12), x1, x2, .int .i64 (.ofNat a), x4, .slice ⟨.d0, .d0, .d0, .d0⟩ 0 0 17 1, .str l b, x7, .int .i64 (.ofNat 17), x9, x10, x11, x12, x13, x14, x15⟩, fe, fe, fe, fe, fe, fe, fe, fe, fe, fe, fe, fe, fe, fe, fe⟩ [] hOps) := by
  cases hc : hasP (sL l a) (sB l b a) 1 40 with
  | true => exact ⟨_, .inl ⟨(1, 40), loop_ret (opYes12 h0 h1 hc n x1 x2 x4 x7 x9 x10 x11 x12 x13 x14 x15), rfl, rfl, find_yes hc⟩⟩
  | false =>
    have := opLp13 (l := l) (b := b) (a := a) h0 h1 m n x1 x2 (.str 1 40) x7 (.bool true) (.bool false) x11 x12 x13 x14 x15
    rw [← loop_nrm (opNo12 h0 h1 hc n x1 x2 x4 x7 x9 x10 x11 x12 x13 x14 x15)] at this
    obtain ⟨T, h | h⟩ := this
    · obtain ⟨p, e1, e2, e3, e4⟩ := h
      exact ⟨T, .inl ⟨p, e1, e2, e3, (find_no (o := (1, 40)) hc).trans e4⟩⟩
    · exact ⟨T, .inr ⟨h.1, (find_no (o := (1, 40)) hc).trans h.2⟩⟩
theorem opLp11 (h0 : Nat.ble a l = true) (h1 : Nat.ble (sL l a) 9223372036854775807 = true) (m n : Nat) (x1 x2 x4 x7 x9 x10 x11 x12 x13 x14 x15 : AV) : OpDone l b a [(1, 38), (1, 40), (1, 41), (1, 60), (1, 62), (1, 10)] (cLoopN (b50 (evF envA 100000 (n + 1)) 100000) (m + 7) ⟨⟨.int .i64 (.ofNat 11), x1, x2, .int .i64 (.ofNat a), x4, .slice ⟨.d0, .d0, .d0, .d0⟩ 0 0 17 1, .str l b, x7, .int .i64 (.ofNat 17), x9, x10, x11, x12, x13, x14, x15⟩, fe, fe, fe, fe, fe, fe, fe, fe, fe, fe, fe, fe, fe, fe, fe⟩ [] hOps) := by
  cases hc : hasP (sL l a) (sB l b a) 1 38 with
  | true => exact ⟨_, .inl ⟨(1, 38), loop_ret (opYes11 h0 h1 hc n x1 x2 x4 x7 x9 x10 x11 x12 x13 x14 x15), rfl, rfl, find_yes hc⟩⟩
  | false =>
    have := opLp12 (l := l) (b := b) (a := a) h0 h1 m n x1 x2 (.str 1 38) x7 (.bool true) (.bool false) x11 x12 x13 x14 x15
    rw [← loop_nrm (opNo11 h0 h1 hc n x1 x2 x4 x7 x9 x10 x11 x12 x13 x14 x15)] at this
    obtain ⟨T, h | h⟩ := this
    · obtain ⟨p, e1, e2, e3, e4⟩ := h
      exact ⟨T, .inl ⟨p, e1, e2, e3, (find_no (o := (1, 38)) hc).trans e4⟩⟩
    · exact ⟨T, .inr ⟨h.1, (find_no (o := (1, 38)) hc).trans h.2⟩⟩
theorem opLp10 (h0 : Nat.ble a l = true) (h1 : Nat.ble (sL l a) 9223372036854775807 = true) (m n : Nat) (x1 x2 x4 x7 x9 x10 x11 x12 x13 x14 x15 : AV) : OpDone l b a [(1, 124), (1, 38), (1, 40), (1, 41), (1, 60), (1, 62), (1, 10)] (cLoopN (b50 (evF envA 100000 (n + 1)) 100000) (m + 8) ⟨⟨.int .i64 (.ofNat 10), x1, x2, .int .i64 (.ofNat a), x4, .slice ⟨.d0, .d0, .d0, .d0⟩ 0 0 17 1, .str l b, x7, .int .i64 (.ofNat 17), x9, x10, x11, x12, x13, x14, x15⟩, fe, fe, fe, fe, fe, fe, fe, fe, fe, fe, fe, fe, fe, fe, fe⟩ [] hOps) := by
  cases hc : hasP (sL l a) (sB l b a) 1 124 with
  | true => exact ⟨_, .inl ⟨(1, 124), loop_ret (opYes10 h0 h1 hc n x1 x2 x4 x7 x9 x10 x11 x12 x13 x14 x15), rfl, rfl, find_yes hc⟩⟩
  | false =>
    have := opLp11 (l := l) (b := b) (a := a) h0 h1 m n x1 x2 (.str 1 124) x7 (.bool true) (.bool false) x11 x12 x13 x14 x15
    rw [← loop_nrm (opNo10 h0 h1 hc n x1 x2 x4 x7 x9 x10 x11 x12 x13 x14 x15)] at this
    obtain ⟨T, h | h⟩ := this
    · obtain ⟨p, e1, e2, e3, e4⟩ := h
      exact ⟨T, .inl ⟨p, e1, e2, e3, (find_no (o := (1, 124)) hc).trans e4⟩⟩
    · exact ⟨T, .inr ⟨h.1, (find_no (o := (1, 124)) hc).trans h.2⟩⟩
theorem opLp9 (h0 : Nat.ble a l = true) (h1 : Nat.ble (sL l a) 9223372036854775807 = true) (m n : Nat) (x1 x2 x4 x7 x9 x10 x11 x12 x13 x14 x15 : AV) : OpDone l b a [(1, 59), (1, 124), (1, 38), (1, 40), (1, 41), (1, 60), (1, 62), (1, 10)] (cLoopN (b50 (evF envA 100000 (n + 1)) 100000) (m + 9) ⟨⟨.int .i64 (.ofNat 9), x1, x2, .int .i64 (.ofNat a), x4, .slice ⟨.d0, .d0, .d0, .d0⟩ 0 0 17 1, .str l b, x7, .int .i64 (.ofNat 17), x9, x10, x11, x12, x13, x14, x15⟩, fe, fe, fe, fe, fe, fe, fe, fe, fe, fe, fe, fe, fe, fe, fe⟩ [] hOps) := by
  cases hc : hasP (sL l a) (sB l b a) 1 59 with
  | true => exact ⟨_, .inl ⟨(1, 59), loop_ret (opYes9 h0 h1 hc n x1 x2 x4 x7 x9 x10 x11 x12 x13 x14 x15), rfl, rfl, find_yes hc⟩⟩
  | false =>
    have := opLp10 (l := l) (b := b) (a := a) h0 h1 m n x1 x2 (.str 1 59) x7 (.bool true) (.bool false) x11 x12 x13 x14 x15
    rw [← loop_nrm (opNo9 h0 h1 hc n x1 x2 x4 x7 x9 x10 x11 x12 x13 x14 x15)] at this
    obtain ⟨T, h | h⟩ := this
    · obtain ⟨p, e1, e2, e3, e4⟩ := h
      exact ⟨T, .inl ⟨p, e1, e2, e3, (find_no (o := (1, 59)) hc).trans e4⟩⟩
    · exact ⟨T, .inr ⟨h.1, (find_no (o := (1, 59)) hc).trans h.2⟩⟩
theorem opLp8 (h0 : Nat.ble a l = true) (h1 : Nat.ble (sL l a) 9223372036854775807 = true) (m n : Nat) (x1 x2 x4 x7 x9 x10 x11 x12 x13 x14 x15 : AV) : OpDone l b a [(2, 31806), (1, 59), (1, 124), (1, 38), (1, 40), (1, 41), (1, 60), (1, 62), (1, 10)] (cLoopN (b50 (evF envA 100000 (n + 1)) 100000) (m + 10) ⟨⟨.int .i64 (.ofNat 8), x1, x2, .int .i64 (.ofNat a), x4, .slice ⟨.d0, .d0, .d0, .d0⟩ 0 0 17 1, .str l b, x7, .int .i64 (.ofNat 17), x9, x10, x11, x12, x13, x14, x15⟩, fe, fe, fe, fe, fe, fe, fe, fe, fe, fe, fe, fe, fe, fe, fe⟩ [] hOps) := by
  cases hc : hasP (sL l a) (sB l b a) 2 31806 with
  | true => exact ⟨_, .inl ⟨(2, 31806), loop_ret (opYes8 h0 h1 hc n x1 x2 x4 x7 x9 x10 x11 x12 x13 x14 x15), rfl, rfl, find_yes hc⟩⟩
  | false =>
    have := opLp9 (l := l) (b := b) (a := a) h0 h1 m n x1 x2 (.str 2 31806) x7 (.bool true) (.bool false) x11 x12 x13 x14 x15
    rw [← loop_nrm (opNo8 h0 h1 hc n x1 x2 x4 x7 x9 x10 x11 x12 x13 x14 x15)] at this
    obtain ⟨T, h | h⟩ := this
    · obtain ⟨p, e1, e2, e3, e4⟩ := h
      exact ⟨T, .inl ⟨p, e1, e2, e3, (find_no (o := (2, 31806)) hc).trans e4⟩⟩
    · exact ⟨T, .inr ⟨h.1, (find_no (o := (2, 31806)) hc).trans h.2⟩⟩
theorem opLp7 (h0 : Nat.ble a l = true) (h1 : Nat.ble (sL l a) 9223372036854775807 = true) (m n : Nat) (x1 x2 x4 x7 x9 x10 x11 x12 x13 x14 x15 : AV) : OpDone l b a [(2, 15932), (2, 31806), (1, 59), (1, 124), (1, 38), (1, 40), (1, 41), (1, 60), (1, 62), (1, 10)] (cLoopN (b50 (evF envA 100000 (n + 1)) 100000) (m + 11) ⟨⟨.int .i64 (.ofNat 7), x1, x2, .int .i64 (.ofNat a), x4, .slice ⟨.d0, .d0, .d0, .d0⟩ 0 0 17 1, .str l b, x7, .int .i64 (.ofNat 17), x9, x10, x11, x12, x13, x14, x15⟩, fe, fe, fe, fe, fe, fe, fe, fe, fe, fe, fe, fe, fe, fe, fe⟩ [] hOps) := by
  cases hc : hasP (sL l a) (sB l b a) 2 15932 with
  | true => exact ⟨_, .inl ⟨(2, 15932), loop_ret (opYes7 h0 h1 hc n x1 x2 x4 x7 x9 x10 x11 x12 x13 x14 x15), rfl, rfl, find_yes hc⟩⟩
  | false =>
    have := opLp8 (l := l) (b := b) (a := a) h0 h1 m n x1 x2 (.str 2 15932) x7 (.bool true) (.bool false) x11 x12 x13 x14 x15
    rw [← loop_nrm (opNo7 h0 h1 hc n x1 x2 x4 x7 x9 x10 x11 x12 x13 x14 x15)] at this
    obtain ⟨T, h | h⟩ := this
    · obtain ⟨p, e1, e2, e3, e4⟩ := h
      exact ⟨T, .inl ⟨p, e1, e2, e3, (find_no (o := (2, 15932)) hc).trans e4⟩⟩
    · exact ⟨T, .inr ⟨h.1, (find_no (o := (2, 15932)) hc).trans h.2⟩⟩
theorem opLp6 (h0 : Nat.ble a l = true) (h1 : Nat.ble (sL l a) 9223372036854775807 = true) (m n : Nat) (x1 x2 x4 x7 x9 x10 x11 x12 x13 x14 x15 : AV) : OpDone l b a [(2, 9790), (2, 15932), (2, 31806), (1, 59), (1, 124), (1, 38), (1, 40), (1, 41), (1, 60), (1, 62), (1, 10)] (cLoopN (b50 (evF envA 100000 (n + 1)) 100000) (m + 12) ⟨⟨.int .i64 (.ofNat 6), x1, x2, .int .i64 (.ofNat a), x4, .slice ⟨.d0, .d0, .d0, .d0⟩ 0 0 17 1, .str l b, x7, .int .i64 (.ofNat 17), x9, x10, x11, x12, x13, x14, x15⟩, fe, fe, fe, fe, fe, fe, fe, fe, fe, fe, fe, fe, fe, fe, fe⟩ [] hOps) := by
  cases hc : hasP (sL l a) (sB l b a) 2 9790 with
  | true => exact ⟨_, .inl ⟨(2, 9790), loop_ret (opYes6 h0 h1 hc n x1 x2 x4 x7 x9 x10 x11 x12 x13 x14 x15), rfl, rfl, find_yes hc⟩⟩
  | false =>
    have := opLp7 (l := l) (b := b) (a := a) h0 h1 m n x1 x2 (.str 2 9790) x7 (.bool true) (.bool false) x11 x12 x13 x14 x15
    rw [← loop_nrm (opNo6 h0 h1 hc n x1 x2 x4 x7 x9 x10 x11 x12 x13 x14 x15)] at this
    obtain ⟨T, h | h⟩ := this
    · obtain ⟨p, e1, e2, e3, e4⟩ := h
      exact ⟨T, .inl ⟨p, e1, e2, e3, (find_no (o := (2, 9790)) hc).trans e4⟩⟩
    · exact ⟨T, .inr ⟨h.1, (find_no (o := (2, 9790)) hc).trans h.2⟩⟩
theorem opLp5 (h0 : Nat.ble a l = true) (h1 : Nat.ble (sL l a) 9223372036854775807 = true) (m n : Nat) (x1 x2 x4 x7 x9 x10 x11 x12 x13 x14 x15 : AV) : OpDone l b a [(2, 9788), (2, 9790), (2, 15932), (2, 31806), (1, 59), (1, 124), (1, 38), (1, 40), (1, 41), (1, 60), (1, 62), (1, 10)] (cLoopN (b50 (evF envA 100000 (n + 1)) 100000) (m + 13) ⟨⟨.int .i64 (.ofNat 5), x1, x2, .int .i64 (.ofNat a), x4, .slice ⟨.d0, .d0, .d0, .d0⟩ 0 0 17 1, .str l b, x7, .int .i64 (.ofNat 17), x9, x10, x11, x12, x13, x14, x15⟩, fe, fe, fe, fe, fe, fe, fe, fe, fe, fe, fe, fe, fe, fe, fe⟩ [] hOps) := by
  cases hc : hasP (sL l a) (sB l b a) 2 9788 with
  | true => exact ⟨_, .inl ⟨(2, 9788), loop_ret (opYes5 h0 h1 hc n x1 x2 x4 x7 x9 x10 x11 x12 x13 x14 x15), rfl, rfl, find_yes hc⟩⟩
  | false =>
    have := opLp6 (l := l) (b := b) (a := a) h0 h1 m n x1 x2 (.str 2 9788) x7 (.bool true) (.bool false) x11 x12 x13 x14 x15
    rw [← loop_nrm (opNo5 h0 h1 hc n x1 x2 x4 x7 x9 x10 x11 x12 x13 x14 x15)] at this
    obtain ⟨T, h | h⟩ := this
    · obtain ⟨p, e1, e2, e3, e4⟩ := h
      exact ⟨T, .inl ⟨p, e1, e2, e3, (find_no (o := (2, 9788)) hc).trans e4⟩⟩
    · exact ⟨T, .inr ⟨h.1, (find_no (o := (2, 9788)) hc).trans h.2⟩⟩
theorem opLp4 (h0 : Nat.ble a l = true) (h1 : Nat.ble (sL l a) 9223372036854775807 = true) (m n : Nat) (x1 x2 x4 x7 x9 x10 x11 x12 x13 x14 x15 : AV) : OpDone l b a [(2, 15420), (2, 9788), (2, 9790), (2, 15932), (2, 31806), (1, 59), (1, 124), (1, 38), (1, 40), (1, 41), (1, 60), (1, 62), (1, 10)] (cLoopN (b50 (evF envA 100000 (n + 1)) 100000) (m + 14) ⟨⟨.int .i64 (.ofNat 4), x1, x2, .int .i64 (.ofNat a), x4, .slice ⟨.d0, .d0, .d0, .d0⟩ 0 0 17 1, .str l b, x7, .int .i64 (.ofNat 17), x9, x10, x11, x12, x13, x14, x15⟩, fe, fe, fe, fe, fe, fe, fe, fe, fe, fe, fe, fe, fe, fe, fe⟩ [] hOps) := by
  cases hc : hasP (sL l a) (sB l b a) 2 15420 with
  | true => exact ⟨_, .inl ⟨(2, 15420), loop_ret (opYes4 h0 h1 hc n x1 x2 x4 x7 x9 x10 x11 x12 x13 x14 x15), rfl, rfl, find_yes hc⟩⟩
  | false =>
    have := opLp5 (l := l) (b := b) (a := a) h0 h1 m n x1 x2 (.str 2 15420) x7 (.bool true) (.bool false) x11 x12 x13 x14 x15
    rw [← loop_nrm (opNo4 h0 h1 hc n x1 x2 x4 x7 x9 x10 x11 x12 x13 x14 x15)] at this
    obtain ⟨T, h | h⟩ := this
    · obtain ⟨p, e1, e2, e3, e4⟩ := h
      exact ⟨T, .inl ⟨p, e1, e2, e3, (find_no (o := (2, 15420)) hc).trans e4⟩⟩
    · exact ⟨T, .inr ⟨h.1, (find_no (o := (2, 15420)) hc).trans h.2⟩⟩
theorem opLp3 (h0 : Nat.ble a l = true) (h1 : Nat.ble (sL l a) 9223372036854775807 = true) (m n : Nat) (x1 x2 x4 x7 x9 x10 x11 x12 x13 x14 x15 : AV) : OpDone l b a [(2, 15934), (2, 15420), (2, 9788), (2, 9790), (2, 15932), (2, 31806), (1, 59), (1, 124), (1, 38), (1, 40), (1, 41), (1, 60), (1, 62), (1, 10)] (cLoopN (b50 (evF envA 100000 (n + 1)) 100000) (m + 15) ⟨⟨.int .i64 (.ofNat 3), x1, x2, .int .i64 (.ofNat a), x4, .slice ⟨.d0, .d0, .d0, .d0⟩ 0 0 17 1, .str l b, x7, .int .i64 (.ofNat 17), x9, x10, x11, x12, x13, x14, x15⟩, fe, fe, fe, fe, fe, fe, fe, fe, fe, fe, fe, fe, fe, fe, fe⟩ [] hOps) := by
  cases hc : hasP (sL l a) (sB l b a) 2 15934 with
  | true => exact ⟨_, .inl ⟨(2, 15934), loop_ret (opYes3 h0 h1 hc n x1 x2 x4 x7 x9 x10 x11 x12 x13 x14 x15), rfl, rfl, find_yes hc⟩⟩
  | false =>
    have := opLp4 (l := l) (b := b) (a := a) h0 h1 m n x1 x2 (.str 2 15934) x7 (.bool true) (.bool false) x11 x12 x13 x14 x15
    rw [← loop_nrm (opNo3 h0 h1 hc n x1 x2 x4 x7 x9 x10 x11 x12 x13 x14 x15)] at this
    obtain ⟨T, h | h⟩ := this
    · obtain ⟨p, e1, e2, e3, e4⟩ := h
      exact ⟨T, .inl ⟨p, e1, e2, e3, (find_no (o := (2, 15934)) hc).trans e4⟩⟩
    · exact ⟨T, .inr ⟨h.1, (find_no (o := (2, 15934)) hc).trans h.2⟩⟩
theorem opLp2 (h0 : Nat.ble a l = true) (h1 : Nat.ble (sL l a) 9223372036854775807 = true) (m n : Nat) (x1 x2 x4 x7 x9 x10 x11 x12 x13 x14 x15 : AV) : OpDone l b a [(2, 31868), (2, 15934), (2, 15420), (2, 9788), (2, 9790), (2, 15932), (2, 31806), (1, 59), (1, 124), (1, 38), (1, 40), (1, 41), (1, 60), (1, 62), (1, 10)] (cLoopN (b50 (evF envA 100000 (n + 1)) 100000) (m + 16) ⟨⟨.int .i64 (.ofNat 2), x1, x2, .int .i64 (.ofNat a), x4, .slice ⟨.d0, .d0, .d0, .d0⟩ 0 0 17 1, .str l b, x7, .int .i64 (.ofNat 17), x9, x10, x11, x12, x13, x14, x15⟩, fe, fe, fe, fe, fe, fe, fe, fe, fe, fe, fe, fe, fe, fe, fe⟩ [] hOps) := by
  cases hc : hasP (sL l a) (sB l b a) 2 31868 with
  | true => exact ⟨_, .inl ⟨(2, 31868), loop_ret (opYes2 h0 h1 hc n x1 x2 x4 x7 x9 x10 x11 x12 x13 x14 x15), rfl, rfl, find_yes hc⟩⟩
  | false =>
    have := opLp3 (l := l) (b := b) (a := a) h0 h1 m n x1 x2 (.str 2 31868) x7 (.bool true) (.bool false) x11 x12 x13 x14 x15
    rw [← loop_nrm (opNo2 h0 h1 hc n x1 x2 x4 x7 x9 x10 x11 x12 x13 x14 x15)] at this
    obtain ⟨T, h | h⟩ := this
    · obtain ⟨p, e1, e2, e3, e4⟩ := h
      exact ⟨T, .inl ⟨p, e1, e2, e3, (find_no (o := (2, 31868)) hc).trans e4⟩⟩
    · exact ⟨T, .inr ⟨h.1, (find_no (o := (2, 31868)) hc).trans h.2⟩⟩
theorem opLp1 (h0 : Nat.ble a l = true) (h1 : Nat.ble (sL l a) 9223372036854775807 = true) (m n : Nat) (x1 x2 x4 x7 x9 x10 x11 x12 x13 x14 x15 : AV) : OpDone l b a [(2, 9766), (2, 31868), (2, 15934), (2, 15420), (2, 9788), (2, 9790), (2, 15932), (2, 31806), (1, 59), (1, 124), (1, 38), (1, 40), (1, 41), (1, 60), (1, 62), (1, 10)] (cLoopN (b50 (evF envA 100000 (n + 1)) 100000) (m + 17) ⟨⟨.int .i64 (.ofNat 1), x1, x2, .int .i64 (.ofNat a), x4, .slice ⟨.d0, .d0, .d0, .d0⟩ 0 0 17 1, .str l b, x7, .int .i64 (.ofNat 17), x9, x10, x11, x12, x13, x14, x15⟩, fe, fe, fe, fe, fe, fe, fe, fe, fe, fe, fe, fe, fe, fe, fe⟩ [] hOps) := by
  cases hc : hasP (sL l a) (sB l b a) 2 9766 with
  | true => exact ⟨_, .inl ⟨(2, 9766), loop_ret (opYes1 h0 h1 hc n x1 x2 x4 x7 x9 x10 x11 x12 x13 x14 x15), rfl, rfl, find_yes hc⟩⟩
  | false =>
    have := opLp2 (l := l) (b := b) (a := a) h0 h1 m n x1 x2 (.str 2 9766) x7 (.bool true) (.bool false) x11 x12 x13 x14 x15
    rw [← loop_nrm (opNo1 h0 h1 hc n x1 x2 x4 x7 x9 x10 x11 x12 x13 x14 x15)] at this
    obtain ⟨T, h | h⟩ := this
    · obtain ⟨p, e1, e2, e3, e4⟩ := h
      exact ⟨T, .inl ⟨p, e1, e2, e3, (find_no (o := (2, 9766)) hc).trans e4⟩⟩
    · exact ⟨T, .inr ⟨h.1, (find_no (o := (2, 9766)) hc).trans h.2⟩⟩
theorem opLp0 (h0 : Nat.ble a l = true) (h1 : Nat.ble (sL l a) 9223372036854775807 = true) (m n : Nat) (x1 x2 x4 x7 x9 x10 x11 x12 x13 x14 x15 : AV) : OpDone l b a [(2, 15163), (2, 9766), (2, 31868), (2, 15934), (2, 15420), (2, 9788), (2, 9790), (2, 15932), (2, 31806), (1, 59), (1, 124), (1, 38), (1, 40), (1, 41), (1, 60), (1, 62), (1, 10)] (cLoopN (b50 (evF envA 100000 (n + 1)) 100000) (m + 18) ⟨⟨.int .i64 (.ofNat 0), x1, x2, .int .i64 (.ofNat a), x4, .slice ⟨.d0, .d0, .d0, .d0⟩ 0 0 17 1, .str l b, x7, .int .i64 (.ofNat 17), x9, x10, x11, x12, x13, x14, x15⟩, fe, fe, fe, fe, fe, fe, fe, fe, fe, fe, fe, fe, fe, fe, fe⟩ [] hOps) := by
  cases hc : hasP (sL l a) (sB l b a) 2 15163 with
  | true => exact ⟨_, .inl ⟨(2, 15163), loop_ret (opYes0 h0 h1 hc n x1 x2 x4 x7 x9 x10 x11 x12 x13 x14 x15), rfl, rfl, find_yes hc⟩⟩
  | false =>
    have := opLp1 (l := l) (b := b) (a := a) h0 h1 m n x1 x2 (.str 2 15163) x7 (.bool true) (.bool false) x11 x12 x13 x14 x15
    rw [← loop_nrm (opNo0 h0 h1 hc n x1 x2 x4 x7 x9 x10 x11 x12 x13 x14 x15)] at this
    obtain ⟨T, h | h⟩ := this
    · obtain ⟨p, e1, e2, e3, e4⟩ := h
      exact ⟨T, .inl ⟨p, e1, e2, e3, (find_no (o := (2, 15163)) hc).trans e4⟩⟩
    · exact ⟨T, .inr ⟨h.1, (find_no (o := (2, 15163)) hc).trans h.2⟩⟩
/-- what Op answers -/
def opAns (l b a : Nat) : AV := Option.rec (motive := fun _ => AV) (.tuple [.str 0 0, .bool false]) (fun p => .tuple [.str p.1 p.2, .bool true]) (opFind l b a opL)
theorem op50 (h0 : Nat.ble (Nat.succ a) l = true) (h1 : Nat.ble l 9223372036854775807 = true) : ∃ H, evF envA 100000 3 p50 [.str l b, .int .i64 (.ofNat a)] emptyH = .ok (opAns l b a) H := by
  have ha : Nat.ble (Nat.succ a) 0 = false := by
    cases hx : Nat.ble (Nat.succ a) 0 with
    | false => rfl
    | true => have := Nat.le_of_ble_eq_true hx; omega
  have h2 : Nat.ble a l = true := by
    have := Nat.le_of_ble_eq_true h0
    exact Nat.ble_eq_true_of_le (by omega)
  have h3 : Nat.ble (sL l a) 9223372036854775807 = true := by
    have := Nat.le_of_ble_eq_true h1
    have e : Nat.sub l a = l - a := rfl
    exact Nat.ble_eq_true_of_le (by unfold sL; rw [e]; omega)
  have hcall : ∀ k : KV, fCall p66 [] (evF envA 100000 2) emptyH k = k (.slice ⟨.d0, .d0, .d0, .d0⟩ 0 0 17 1) hOps := fun k => by
    show kc k (evF envA 100000 2 p66 [] emptyH) = _
    rw [opsRun]; rfl
  have hlen : ∀ k : KV, fSllen (.slice ⟨.d0, .d0, .d0, .d0⟩ 0 0 17 1) hOps k = k (.int .i64 (.ofNat 17)) hOps := fun k => rfl
  have hbody : ∃ T : Fm, a50.body (evF envA 100000 2) 100000 ⟨⟨.top, .top, .top, .int .i64 (.ofNat a), .top, .top, .str l b, .top, .top, .top, .top, .top, .top, .top, .top, .top⟩, fe, fe, fe, fe, fe, fe, fe, fe, fe, fe, fe, fe, fe, fe, fe⟩ [] emptyH = .ret T [] hOps ∧ AV.tuple [T.c0.c1, T.c0.c2] = opAns l b a := by
    have hloop := opLp0 (l := l) (b := b) (a := a) h2 h3 99982 1 (.str 0 0) (.bool false) .top (.bool false) .top .top .top .top .top .top .top
    obtain ⟨T, hT | hT⟩ := hloop
    · obtain ⟨p, e1, e2, e3, e4⟩ := hT
      refine ⟨T, ?_, ?_⟩
      · simp only [a50_body, B50, cSeq, w1, w2, W0, fLss, ha, jnf_f, jn_f, fStrlen_s h1, fInt_geq, h0, bnot, pick_f, pick_t, w7, cCondT, condK, iteO, cSkip, hcall, w5, hlen, w8, w0, cBlock, cLoop]
        have e : cLoopN (b50 (evF envA 100000 2) 100000) 100000 ⟨⟨.int .i64 (.ofNat 0), .str 0 0, .bool false, .int .i64 (.ofNat a), .top, .slice ⟨.d0, .d0, .d0, .d0⟩ 0 0 17 1, .str l b, .bool false, .int .i64 (.ofNat 17), .top, .top, .top, .top, .top, .top, .top⟩, fe, fe, fe, fe, fe, fe, fe, fe, fe, fe, fe, fe, fe, fe, fe⟩ [] hOps = .ret T [] hOps := e1
        rw [e]
      · rw [e2, e3]; unfold opAns opL; rw [e4]
    · obtain ⟨e1, e4⟩ := hT
      refine ⟨(⟨⟨T.c0.c0, .str 0 0, .bool false, T.c0.c3, T.c0.c4, T.c0.c5, T.c0.c6, T.c0.c7, T.c0.c8, T.c0.c9, T.c0.c10, T.c0.c11, T.c0.c12, T.c0.c13, T.c0.c14, T.c0.c15⟩, T.c1, T.c2, T.c3, T.c4, T.c5, T.c6, T.c7, T.c8, T.c9, T.c10, T.c11, T.c12, T.c13, T.c14, T.c15⟩ : Fm), ?_, ?_⟩
      · simp only [a50_body, B50, cSeq, w1, w2, W0, fLss, ha, jnf_f, jn_f, fStrlen_s h1, fInt_geq, h0, bnot, pick_f, pick_t, w7, cCondT, condK, iteO, cSkip, hcall, w5, hlen, w8, w0, cBlock, cLoop]
        have e : cLoopN (b50 (evF envA 100000 2) 100000) 100000 ⟨⟨.int .i64 (.ofNat 0), .str 0 0, .bool false, .int .i64 (.ofNat a), .top, .slice ⟨.d0, .d0, .d0, .d0⟩ 0 0 17 1, .str l b, .bool false, .int .i64 (.ofNat 17), .top, .top, .top, .top, .top, .top, .top⟩, fe, fe, fe, fe, fe, fe, fe, fe, fe, fe, fe, fe, fe, fe, fe⟩ [] hOps = .ext 0 T [] hOps := e1
        rw [e]
        rfl
      · unfold opAns opL; rw [e4]
  obtain ⟨T, hT, hv⟩ := hbody
  refine ⟨hOps, ?_⟩
  show cLeave _ a50 (a50.body (evF envA 100000 2) 100000 _ [] emptyH) = _
  refine (congrArg (cLeave _ a50) hT).trans ?_
  show CR.ok (.tuple [T.c0.c1, T.c0.c2]) hOps = _
  rw [hv]
theorem op50e (h0 : Nat.ble (Nat.succ a) l = false) (h1 : Nat.ble l 9223372036854775807 = true) : ∃ H, evF envA 100000 3 p50 [.str l b, .int .i64 (.ofNat a)] emptyH = .ok (.tuple [.str 0 0, .bool false]) H := by
  have ha : Nat.ble (Nat.succ a) 0 = false := by
    cases hx : Nat.ble (Nat.succ a) 0 with
    | false => rfl
    | true => have := Nat.le_of_ble_eq_true hx; omega
  have hbody : a50.body (evF envA 100000 2) 100000 ⟨⟨.top, .top, .top, .int .i64 (.ofNat a), .top, .top, .str l b, .top, .top, .top, .top, .top, .top, .top, .top, .top⟩, fe, fe, fe, fe, fe, fe, fe, fe, fe, fe, fe, fe, fe, fe, fe⟩ [] emptyH = .ret ⟨⟨.top, .str 0 0, .bool false, .int .i64 (.ofNat a), .top, .top, .str l b, .bool true, .top, .top, .top, .top, .top, .top, .top, .top⟩, fe, fe, fe, fe, fe, fe, fe, fe, fe, fe, fe, fe, fe, fe, fe⟩ [] emptyH := by
    simp only [a50_body, B50, cSeq, w1, w2, W0, fLss, ha, jnf_f, jn_f, fStrlen_s h1, fInt_geq, h0, bnot, pick_f, pick_t, w7, cCondT, condK, iteO, cSkip, cRet]
  refine ⟨emptyH, ?_⟩
  show cLeave _ a50 (a50.body (evF envA 100000 2) 100000 _ [] emptyH) = _
  refine (congrArg (cLeave _ a50) hbody).trans ?_
  rfl
end
def pOp (vs : List AV) : Option AV := List.rec (motive := fun _ => Option AV) none (fun v l _ => List.rec (motive := fun _ => Option AV) none (fun w l _ => List.rec (motive := fun _ => Option AV)
  (strO v fun l b => natO w fun a => Bool.rec (motive := fun _ => Option AV) none (Bool.rec (motive := fun _ => Option AV) (some (.tuple [.str 0 0, .bool false])) (some (opAns l b a)) (Nat.ble (Nat.succ a) l)) (Nat.ble l 9223372036854775807)) (fun _ _ _ => none) l) l) vs
theorem pOp_some : ∀ {vs : List AV} {u : AV}, pOp vs = some u → ∃ l b a, vs = [.str l b, .int .i64 (.ofNat a)] ∧ Nat.ble l 9223372036854775807 = true ∧ ((Nat.ble (Nat.succ a) l = true ∧ u = opAns l b a) ∨ (Nat.ble (Nat.succ a) l = false ∧ u = .tuple [.str 0 0, .bool false]))
  | [], _, h => by cases h
  | [_], _, h => by cases h
  | _ :: _ :: _ :: _, _, h => by cases h
  | [v, w], u, h => by
    have h0 : (strO v fun l b => natO w fun a => Bool.rec (motive := fun _ => Option AV) none (Bool.rec (motive := fun _ => Option AV) (some (.tuple [.str 0 0, .bool false])) (some (opAns l b a)) (Nat.ble (Nat.succ a) l)) (Nat.ble l 9223372036854775807)) = some u := h
    clear h
    obtain ⟨l, b, e1, h1⟩ := strO_some h0
    obtain ⟨a, e2, h2⟩ := natO_some h1
    subst e1; subst e2
    cases hb : Nat.ble l 9223372036854775807 with
    | false => rw [hb] at h2; cases h2
    | true =>
      rw [hb] at h2
      cases hc : Nat.ble (Nat.succ a) l with
      | true => rw [hc] at h2; cases h2; exact ⟨l, b, a, rfl, hb, .inl ⟨hc, rfl⟩⟩
      | false => rw [hc] at h2; cases h2; exact ⟨l, b, a, rfl, hb, .inr ⟨hc, rfl⟩⟩
theorem opAns_plain (l b a : Nat) : Plain (opAns l b a) := by
  unfold opAns
  cases opFind l b a opL with
  | none => exact plain_tup2 (plain_str _ _) (plain_bool _)
  | some p => exact plain_tup2 (plain_str _ _) (plain_bool _)
theorem op_ok : PrimOk Go.Proofs.Try.prog p50 pOp := fun vs v hv base μ w xs H hR hx => by
  obtain ⟨l, b, a, rfl, h1, hor⟩ := pOp_some hv
  have hp : Plain v := by
    rcases hor with ⟨_, rfl⟩ | ⟨_, rfl⟩
    · exact opAns_plain l b a
    · exact plain_tup2 (plain_str _ _) (plain_bool _)
  have hrun : ∃ H', evF envA 100000 3 p50 [.str l b, .int .i64 (.ofNat a)] emptyH = .ok v H' := by
    rcases hor with ⟨h0, rfl⟩ | ⟨h0, rfl⟩
    · exact op50 h0 h1
    · exact op50e h0 h1
  obtain ⟨H', hH⟩ := hrun
  exact closed_plain (evF_ok follows envA_ok 3) hH hp (fun _ _ h => by cases h with | cons _ _ _ _ h1 h2 => cases h2 with | cons _ _ _ _ h3 h4 => cases h4; cases h3 with | int _ _ hr => exact .cons _ _ _ _ (plain_str _ _ _ _ _ h1) (.cons _ _ _ _ (.int _ _ hr) .nil)) hR hx
end
end Go.Ev
