/- The words that scripts are made with, as a function answered without its code. -/
import Derived.Test.YtpmgingpmfmdfaaOp
set_option linter.unusedVariables false
set_option linter.unusedSimpArgs false
namespace Go.Ev
noncomputable section
def b84 : KC := (cSeq (fun call _ T D H => fBin .lss T.c0.c0 T.c0.c4 H fun v0 H => w5 v0 T.c0 fun t => W0 t T fun T => .nrm T D H) (cSeq (cCondT (fun T => T.c0.c5) cSkip (cExit 0)) (cSeq (cBlock 1 (cSeq (fun call _ T D H => w2 T.c0.c0 T.c0 fun t => W0 t T fun T => .nrm T D H) (cSeq (fun call _ T D H => fIaddr 1 T.c0.c3 T.c0.c2 H fun v3 H => fLoad none v3 H fun v4 H => fBin .eql T.c0.c7 v4 H fun v5 H => w6 v5 T.c0 fun t => W0 t T fun T => .nrm T D H) (cCondT (fun T => T.c0.c6) (cSeq (fun call _ T D H => w1 T.c0.c2 T.c0 fun t => W0 t T fun T => .nrm T D H) cRet) cSkip)))) (fun call _ T D H => fBin .add T.c0.c0 (.int .i64 (.ofNat 1)) H fun v0 H => w0 v0 T.c0 fun t => W0 t T fun T => .nrm T D H))))
def B84 : KC := (cSeq (fun call _ T D H => w1 (.int .i64 (.ofNat 0)) T.c0 fun t => W0 t T fun T => .nrm T D H) (cSeq (cSeq (fun call _ T D H => fSllen T.c0.c3 H fun v1 H => w4 v1 T.c0 fun t => W0 t T fun T => w0 (.int .i64 (.ofNat 0)) T.c0 fun t => W0 t T fun T => .nrm T D H) (cBlock 0 (cLoop b84))) (cSeq (fun call _ T D H => w1 (.int .i64 (.negSucc 0)) T.c0 fun t => W0 t T fun T => .nrm T D H) cRet)))
theorem a84_body : a84.body = B84 := rfl
def outH (o : Out) : AH := Out.rec (motive := fun _ => AH) (fun _ _ H => H) (fun _ _ _ H => H) (fun _ _ H => H) (fun _ => emptyH) o
def hRes : AH := outH (fBslice 1 16 [[.str 2 26217], [.str 4 1852139636], [.str 4 1702063205], [.str 4 1718185061], [.str 2 26982], [.str 5 435610544247], [.str 5 465625706101], [.str 2 28516], [.str 4 1701736292], [.str 3 7499622], [.str 4 1702060387], [.str 4 1667330917], [.str 2 28265], [.str 1 123], [.str 1 125], [.str 1 33]] emptyH fun _ H => .nrm Fm.e [] H)
theorem resMk (k : KV) : fBslice 1 16 [[.str 2 26217], [.str 4 1852139636], [.str 4 1702063205], [.str 4 1718185061], [.str 2 26982], [.str 5 435610544247], [.str 5 465625706101], [.str 2 28516], [.str 4 1701736292], [.str 3 7499622], [.str 4 1702060387], [.str 4 1667330917], [.str 2 28265], [.str 1 123], [.str 1 125], [.str 1 33]] emptyH k = k (.slice ⟨.d0, .d0, .d0, .d0⟩ 0 0 16 1) hRes := by kernel_rfl
theorem fEl_s (l b : Nat) (k : List AV → Out) : fEl 1 (.str l b) k = k [.str l b] := rfl
theorem resRd0 (k : KV) : fLoad none (.ptr ⟨.d0, .d0, .d0, .d0⟩ 0 0 0 1) hRes k = k (.str 2 26217) hRes := by kernel_rfl
theorem resRd1 (k : KV) : fLoad none (.ptr ⟨.d0, .d0, .d0, .d0⟩ 0 1 0 1) hRes k = k (.str 4 1852139636) hRes := by kernel_rfl
theorem resRd2 (k : KV) : fLoad none (.ptr ⟨.d0, .d0, .d0, .d0⟩ 0 2 0 1) hRes k = k (.str 4 1702063205) hRes := by kernel_rfl
theorem resRd3 (k : KV) : fLoad none (.ptr ⟨.d0, .d0, .d0, .d0⟩ 0 3 0 1) hRes k = k (.str 4 1718185061) hRes := by kernel_rfl
theorem resRd4 (k : KV) : fLoad none (.ptr ⟨.d0, .d0, .d0, .d0⟩ 0 4 0 1) hRes k = k (.str 2 26982) hRes := by kernel_rfl
theorem resRd5 (k : KV) : fLoad none (.ptr ⟨.d0, .d0, .d0, .d0⟩ 0 5 0 1) hRes k = k (.str 5 435610544247) hRes := by kernel_rfl
theorem resRd6 (k : KV) : fLoad none (.ptr ⟨.d0, .d0, .d0, .d0⟩ 0 6 0 1) hRes k = k (.str 5 465625706101) hRes := by kernel_rfl
theorem resRd7 (k : KV) : fLoad none (.ptr ⟨.d0, .d0, .d0, .d0⟩ 0 7 0 1) hRes k = k (.str 2 28516) hRes := by kernel_rfl
theorem resRd8 (k : KV) : fLoad none (.ptr ⟨.d0, .d0, .d0, .d0⟩ 0 8 0 1) hRes k = k (.str 4 1701736292) hRes := by kernel_rfl
theorem resRd9 (k : KV) : fLoad none (.ptr ⟨.d0, .d0, .d0, .d0⟩ 0 9 0 1) hRes k = k (.str 3 7499622) hRes := by kernel_rfl
theorem resRd10 (k : KV) : fLoad none (.ptr ⟨.d0, .d0, .d0, .d0⟩ 0 10 0 1) hRes k = k (.str 4 1702060387) hRes := by kernel_rfl
theorem resRd11 (k : KV) : fLoad none (.ptr ⟨.d0, .d0, .d0, .d0⟩ 0 11 0 1) hRes k = k (.str 4 1667330917) hRes := by kernel_rfl
theorem resRd12 (k : KV) : fLoad none (.ptr ⟨.d0, .d0, .d0, .d0⟩ 0 12 0 1) hRes k = k (.str 2 28265) hRes := by kernel_rfl
theorem resRd13 (k : KV) : fLoad none (.ptr ⟨.d0, .d0, .d0, .d0⟩ 0 13 0 1) hRes k = k (.str 1 123) hRes := by kernel_rfl
theorem resRd14 (k : KV) : fLoad none (.ptr ⟨.d0, .d0, .d0, .d0⟩ 0 14 0 1) hRes k = k (.str 1 125) hRes := by kernel_rfl
theorem resRd15 (k : KV) : fLoad none (.ptr ⟨.d0, .d0, .d0, .d0⟩ 0 15 0 1) hRes k = k (.str 1 33) hRes := by kernel_rfl
theorem fIxR (m : Nat) (H : AH) (k : KV) (h : Nat.ble (Nat.succ m) 16 = true) : fIaddr 1 (.slice ⟨.d0, .d0, .d0, .d0⟩ 0 0 16 1) (.int .i64 (.ofNat m)) H k = k (.ptr ⟨.d0, .d0, .d0, .d0⟩ 0 (Nat.add 0 m) 0 1) H := by
  show iteO (band (Nat.beq 1 1) (Nat.ble (Nat.succ m) 16)) _ _ = _
  rw [h]; rfl
section
variable {l b : Nat}
theorem resNo0 (hc : eqS l b 2 26217 = false) (call : FT) (x1 x2 x5 x6 x8 x9 x10 x11 x12 x13 x14 x15 : AV) : b84 call 100000 ⟨⟨.int .i64 (.ofNat 0), x1, x2, .slice ⟨.d0, .d0, .d0, .d0⟩ 0 0 16 1, .int .i64 (.ofNat 16), x5, x6, .str l b, x8, x9, x10, x11, x12, x13, x14, x15⟩, fe, fe, fe, fe, fe, fe, fe, fe, fe, fe, fe, fe, fe, fe, fe⟩ [] hRes = .nrm ⟨⟨.int .i64 (.ofNat 1), x1, .int .i64 (.ofNat 0), .slice ⟨.d0, .d0, .d0, .d0⟩ 0 0 16 1, .int .i64 (.ofNat 16), .bool true, .bool false, .str l b, x8, x9, x10, x11, x12, x13, x14, x15⟩, fe, fe, fe, fe, fe, fe, fe, fe, fe, fe, fe, fe, fe, fe, fe⟩ [] hRes := by
  have hl : Nat.ble (Nat.succ 0) 16 = true := rfl
  have ha : Nat.add 0 0 = 0 := rfl
  simp only [b84, cSeq, fLss, hl, w5, W0, cCondT, condK, iteO, cSkip, cBlock, cExit, w2, fIxR 0 _ _ hl, ha, resRd0, fStr_eql, hc, w6, cRet, w1, w0]
  rfl
theorem resYes0 (hc : eqS l b 2 26217 = true) (call : FT) (x1 x2 x5 x6 x8 x9 x10 x11 x12 x13 x14 x15 : AV) : b84 call 100000 ⟨⟨.int .i64 (.ofNat 0), x1, x2, .slice ⟨.d0, .d0, .d0, .d0⟩ 0 0 16 1, .int .i64 (.ofNat 16), x5, x6, .str l b, x8, x9, x10, x11, x12, x13, x14, x15⟩, fe, fe, fe, fe, fe, fe, fe, fe, fe, fe, fe, fe, fe, fe, fe⟩ [] hRes = .ret ⟨⟨.int .i64 (.ofNat 0), .int .i64 (.ofNat 0), .int .i64 (.ofNat 0), .slice ⟨.d0, .d0, .d0, .d0⟩ 0 0 16 1, .int .i64 (.ofNat 16), .bool true, .bool true, .str l b, x8, x9, x10, x11, x12, x13, x14, x15⟩, fe, fe, fe, fe, fe, fe, fe, fe, fe, fe, fe, fe, fe, fe, fe⟩ [] hRes := by
  have hl : Nat.ble (Nat.succ 0) 16 = true := rfl
  have ha : Nat.add 0 0 = 0 := rfl
  simp only [b84, cSeq, fLss, hl, w5, W0, cCondT, condK, iteO, cSkip, cBlock, cExit, w2, fIxR 0 _ _ hl, ha, resRd0, fStr_eql, hc, w6, cRet, w1, w0]
theorem resNo1 (hc : eqS l b 4 1852139636 = false) (call : FT) (x1 x2 x5 x6 x8 x9 x10 x11 x12 x13 x14 x15 : AV) : b84 call 100000 ⟨⟨.int .i64 (.ofNat 1), x1, x2, .slice ⟨.d0, .d0, .d0, .d0⟩ 0 0 16 1, .int .i64 (.ofNat 16), x5, x6, .str l b, x8, x9, x10, x11, x12, x13, x14, x15⟩, fe, fe, fe, fe, fe, fe, fe, fe, fe, fe, fe, fe, fe, fe, fe⟩ [] hRes = .nrm ⟨⟨.int .i64 (.ofNat 2), x1, .int .i64 (.ofNat 1), .slice ⟨.d0, .d0, .d0, .d0⟩ 0 0 16 1, .int .i64 (.ofNat 16), .bool true, .bool false, .str l b, x8, x9, x10, x11, x12, x13, x14, x15⟩, fe, fe, fe, fe, fe, fe, fe, fe, fe, fe, fe, fe, fe, fe, fe⟩ [] hRes := by
  have hl : Nat.ble (Nat.succ 1) 16 = true := rfl
  have ha : Nat.add 0 1 = 1 := rfl
  simp only [b84, cSeq, fLss, hl, w5, W0, cCondT, condK, iteO, cSkip, cBlock, cExit, w2, fIxR 1 _ _ hl, ha, resRd1, fStr_eql, hc, w6, cRet, w1, w0]
  rfl
theorem resYes1 (hc : eqS l b 4 1852139636 = true) (call : FT) (x1 x2 x5 x6 x8 x9 x10 x11 x12 x13 x14 x15 : AV) : b84 call 100000 ⟨⟨.int .i64 (.ofNat 1), x1, x2, .slice ⟨.d0, .d0, .d0, .d0⟩ 0 0 16 1, .int .i64 (.ofNat 16), x5, x6, .str l b, x8, x9, x10, x11, x12, x13, x14, x15⟩, fe, fe, fe, fe, fe, fe, fe, fe, fe, fe, fe, fe, fe, fe, fe⟩ [] hRes = .ret ⟨⟨.int .i64 (.ofNat 1), .int .i64 (.ofNat 1), .int .i64 (.ofNat 1), .slice ⟨.d0, .d0, .d0, .d0⟩ 0 0 16 1, .int .i64 (.ofNat 16), .bool true, .bool true, .str l b, x8, x9, x10, x11, x12, x13, x14, x15⟩, fe, fe, fe, fe, fe, fe, fe, fe, fe, fe, fe, fe, fe, fe, fe⟩ [] hRes := by
  have hl : Nat.ble (Nat.succ 1) 16 = true := rfl
  have ha : Nat.add 0 1 = 1 := rfl
  simp only [b84, cSeq, fLss, hl, w5, W0, cCondT, condK, iteO, cSkip, cBlock, cExit, w2, fIxR 1 _ _ hl, ha, resRd1, fStr_eql, hc, w6, cRet, w1, w0]
theorem resNo2 (hc : eqS l b 4 1702063205 = false) (call : FT) (x1 x2 x5 x6 x8 x9 x10 x11 x12 x13 x14 x15 : AV) : b84 call 100000 ⟨⟨.int .i64 (.ofNat 2), x1, x2, .slice ⟨.d0, .d0, .d0, .d0⟩ 0 0 16 1, .int .i64 (.ofNat 16), x5, x6, .str l b, x8, x9, x10, x11, x12, x13, x14, x15⟩, fe, fe, fe, fe, fe, fe, fe, fe, fe, fe, fe, fe, fe, fe, fe⟩ [] hRes = .nrm ⟨⟨.int .i64 (.ofNat 3), x1, .int .i64 (.ofNat 2), .slice ⟨.d0, .d0, .d0, .d0⟩ 0 0 16 1, .int .i64 (.ofNat 16), .bool true, .bool false, .str l b, x8, x9, x10, x11, x12, x13, x14, x15⟩, fe, fe, fe, fe, fe, fe, fe, fe, fe, fe, fe, fe, fe, fe, fe⟩ [] hRes := by
  have hl : Nat.ble (Nat.succ 2) 16 = true := rfl
  have ha : Nat.add 0 2 = 2 := rfl
  simp only [b84, cSeq, fLss, hl, w5, W0, cCondT, condK, iteO, cSkip, cBlock, cExit, w2, fIxR 2 _ _ hl, ha, resRd2, fStr_eql, hc, w6, cRet, w1, w0]
  rfl
theorem resYes2 (hc : eqS l b 4 1702063205 = true) (call : FT) (x1 x2 x5 x6 x8 x9 x10 x11 x12 x13 x14 x15 : AV) : b84 call 100000 ⟨⟨.int .i64 (.ofNat 2), x1, x2, .slice ⟨.d0, .d0, .d0, .d0⟩ 0 0 16 1, .int .i64 (.ofNat 16), x5, x6, .str l b, x8, x9, x10, x11, x12, x13, x14, x15⟩, fe, fe, fe, fe, fe, fe, fe, fe, fe, fe, fe, fe, fe, fe, fe⟩ [] hRes = .ret ⟨⟨.int .i64 (.ofNat 2), .int .i64 (.ofNat 2), .int .i64 (.ofNat 2), .slice ⟨.d0, .d0, .d0, .d0⟩ 0 0 16 1, .int .i64 (.ofNat 16), .bool true, .bool true, .str l b, x8, x9, x10, x11, x12, x13, x14, x15⟩, fe, fe, fe, fe, fe, fe, fe, fe, fe, fe, fe, fe, fe, fe, fe⟩ [] hRes := by
  have hl : Nat.ble (Nat.succ 2) 16 = true := rfl
  have ha : Nat.add 0 2 = 2 := rfl
  simp only [b84, cSeq, fLss, hl, w5, W0, cCondT, condK, iteO, cSkip, cBlock, cExit, w2, fIxR 2 _ _ hl, ha, resRd2, fStr_eql, hc, w6, cRet, w1, w0]
theorem resNo3 (hc : eqS l b 4 1718185061 = false) (call : FT) (x1 x2 x5 x6 x8 x9 x10 x11 x12 x13 x14 x15 : AV) : b84 call 100000 ⟨⟨.int .i64 (.ofNat 3), x1, x2, .slice ⟨.d0, .d0, .d0, .d0⟩ 0 0 16 1, .int .i64 (.ofNat 16), x5, x6, .str l b, x8, x9, x10, x11, x12, x13, x14, x15⟩, fe, fe, fe, fe, fe, fe, fe, fe, fe, fe, fe, fe, fe, fe, fe⟩ [] hRes = .nrm ⟨⟨.int .i64 (.ofNat 4), x1, .int .i64 (.ofNat 3), .slice ⟨.d0, .d0, .d0, .d0⟩ 0 0 16 1, .int .i64 (.ofNat 16), .bool true, .bool false, .str l b, x8, x9, x10, x11, x12, x13, x14, x15⟩, fe, fe, fe, fe, fe, fe, fe, fe, fe, fe, fe, fe, fe, fe, fe⟩ [] hRes := by
  have hl : Nat.ble (Nat.succ 3) 16 = true := rfl
  have ha : Nat.add 0 3 = 3 := rfl
  simp only [b84, cSeq, fLss, hl, w5, W0, cCondT, condK, iteO, cSkip, cBlock, cExit, w2, fIxR 3 _ _ hl, ha, resRd3, fStr_eql, hc, w6, cRet, w1, w0]
  rfl
theorem resYes3 (hc : eqS l b 4 1718185061 = true) (call : FT) (x1 x2 x5 x6 x8 x9 x10 x11 x12 x13 x14 x15 : AV) : b84 call 100000 ⟨⟨.int .i64 (.ofNat 3), x1, x2, .slice ⟨.d0, .d0, .d0, .d0⟩ 0 0 16 1, .int .i64 (.ofNat 16), x5, x6, .str l b, x8, x9, x10, x11, x12, x13, x14, x15⟩, fe, fe, fe, fe, fe, fe, fe, fe, fe, fe, fe, fe, fe, fe, fe⟩ [] hRes = .ret ⟨⟨.int .i64 (.ofNat 3), .int .i64 (.ofNat 3), .int .i64 (.ofNat 3), .slice ⟨.d0, .d0, .d0, .d0⟩ 0 0 16 1, .int .i64 (.ofNat 16), .bool true, .bool true, .str l b, x8, x9, x10, x11, x12, x13, x14, x15⟩, fe, fe, fe, fe, fe, fe, fe, fe, fe, fe, fe, fe, fe, fe, fe⟩ [] hRes := by
  have hl : Nat.ble (Nat.succ 3) 16 = true := rfl
  have ha : Nat.add 0 3 = 3 := rfl
  simp only [b84, cSeq, fLss, hl, w5, W0, cCondT, condK, iteO, cSkip, cBlock, cExit, w2, fIxR 3 _ _ hl, ha, resRd3, fStr_eql, hc, w6, cRet, w1, w0]
theorem resNo4 (hc : eqS l b 2 26982 = false) (call : FT) (x1 x2 x5 x6 x8 x9 x10 x11 x12 x13 x14 x15 : AV) : b84 call 100000 ⟨⟨.int .i64 (.ofNat 4), x1, x2, .slice ⟨.d0, .d0, .d0, .d0⟩ 0 0 16 1, .int .i64 (.ofNat 16), x5, x6, .str l b, x8, x9, x10, x11, x12, x13, x14, x15⟩, fe, fe, fe, fe, fe, fe, fe, fe, fe, fe, fe, fe, fe, fe, fe⟩ [] hRes = .nrm ⟨⟨.int .i64 (.ofNat 5), x1, .int .i64 (.ofNat 4), .slice ⟨.d0, .d0, .d0, .d0⟩ 0 0 16 1, .int .i64 (.ofNat 16), .bool true, .bool false, .str l b, x8, x9, x10, x11, x12, x13, x14, x15⟩, fe, fe, fe, fe, fe, fe, fe, fe, fe, fe, fe, fe, fe, fe, fe⟩ [] hRes := by
  have hl : Nat.ble (Nat.succ 4) 16 = true := rfl
  have ha : Nat.add 0 4 = 4 := rfl
  simp only [b84, cSeq, fLss, hl, w5, W0, cCondT, condK, iteO, cSkip, cBlock, cExit, w2, fIxR 4 _ _ hl, ha, resRd4, fStr_eql, hc, w6, cRet, w1, w0]
  rfl
theorem resYes4 (hc : eqS l b 2 26982 = true) (call : FT) (x1 x2 x5 x6 x8 x9 x10 x11 x12 x13 x14 x15 : AV) : b84 call 100000 ⟨⟨.int .i64 (.ofNat 4), x1, x2, .slice ⟨.d0, .d0, .d0, .d0⟩ 0 0 16 1, .int .i64 (.ofNat 16), x5, x6, .str l b, x8, x9, x10, x11, x12, x13, x14, x15⟩, fe, fe, fe, fe, fe, fe, fe, fe, fe, fe, fe, fe, fe, fe, fe⟩ [] hRes = .ret ⟨⟨.int .i64 (.ofNat 4), .int .i64 (.ofNat 4), .int .i64 (.ofNat 4), .slice ⟨.d0, .d0, .d0, .d0⟩ 0 0 16 1, .int .i64 (.ofNat 16), .bool true, .bool true, .str l b, x8, x9, x10, x11, x12, x13, x14, x15⟩, fe, fe, fe, fe, fe, fe, fe, fe, fe, fe, fe, fe, fe, fe, fe⟩ [] hRes := by
  have hl : Nat.ble (Nat.succ 4) 16 = true := rfl
  have ha : Nat.add 0 4 = 4 := rfl
  simp only [b84, cSeq, fLss, hl, w5, W0, cCondT, condK, iteO, cSkip, cBlock, cExit, w2, fIxR 4 _ _ hl, ha, resRd4, fStr_eql, hc, w6, cRet, w1, w0]
theorem resNo5 (hc : eqS l b 5 435610544247 = false) (call : FT) (x1 x2 x5 x6 x8 x9 x10 x11 x12 x13 x14 x15 : AV) : b84 call 100000 ⟨⟨.int .i64 (.ofNat 5), x1, x2, .slice ⟨.d0, .d0, .d0, .d0⟩ 0 0 16 1, .int .i64 (.ofNat 16), x5, x6, .str l b, x8, x9, x10, x11, x12, x13, x14, x15⟩, fe, fe, fe, fe, fe, fe, fe, fe, fe, fe, fe, fe, fe, fe, fe⟩ [] hRes = .nrm ⟨⟨.int .i64 (.ofNat 6), x1, .int .i64 (.ofNat 5), .slice ⟨.d0, .d0, .d0, .d0⟩ 0 0 16 1, .int .i64 (.ofNat 16), .bool true, .bool false, .str l b, x8, x9, x10, x11, x12, x13, x14, x15⟩, fe, fe, fe, fe, fe, fe, fe, fe, fe, fe, fe, fe, fe, fe, fe⟩ [] hRes := by
  have hl : Nat.ble (Nat.succ 5) 16 = true := rfl
  have ha : Nat.add 0 5 = 5 := rfl
  simp only [b84, cSeq, fLss, hl, w5, W0, cCondT, condK, iteO, cSkip, cBlock, cExit, w2, fIxR 5 _ _ hl, ha, resRd5, fStr_eql, hc, w6, cRet, w1, w0]
  rfl
theorem resYes5 (hc : eqS l b 5 435610544247 = true) (call : FT) (x1 x2 x5 x6 x8 x9 x10 x11 x12 x13 x14 x15 : AV) : b84 call 100000 ⟨⟨.int .i64 (.ofNat 5), x1, x2, .slice ⟨.d0, .d0, .d0, .d0⟩ 0 0 16 1, .int .i64 (.ofNat 16), x5, x6, .str l b, x8, x9, x10, x11, x12, x13, x14, x15⟩, fe, fe, fe, fe, fe, fe, fe, fe, fe, fe, fe, fe, fe, fe, fe⟩ [] hRes = .ret ⟨⟨.int .i64 (.ofNat 5), .int .i64 (.ofNat 5), .int .i64 (.ofNat 5), .slice ⟨.d0, .d0, .d0, .d0⟩ 0 0 16 1, .int .i64 (.ofNat 16), .bool true, .bool true, .str l b, x8, x9, x10, x11, x12, x13, x14, x15⟩, fe, fe, fe, fe, fe, fe, fe, fe, fe, fe, fe, fe, fe, fe, fe⟩ [] hRes := by
  have hl : Nat.ble (Nat.succ 5) 16 = true := rfl
  have ha : Nat.add 0 5 = 5 := rfl
  simp only [b84, cSeq, fLss, hl, w5, W0, cCondT, condK, iteO, cSkip, cBlock, cExit, w2, fIxR 5 _ _ hl, ha, resRd5, fStr_eql, hc, w6, cRet, w1, w0]
theorem resNo6 (hc : eqS l b 5 465625706101 = false) (call : FT) (x1 x2 x5 x6 x8 x9 x10 x11 x12 x13 x14 x15 : AV) : b84 call 100000 ⟨⟨.int .i64 (.ofNat 6), x1, x2, .slice ⟨.d0, .d0, .d0, .d0⟩ 0 0 16 1, .int .i64 (.ofNat 16), x5, x6, .str l b, x8, x9, x10, x11, x12, x13, x14, x15⟩, fe, fe, fe, fe, fe, fe, fe, fe, fe, fe, fe, fe, fe, fe, fe⟩ [] hRes = .nrm ⟨⟨.int .i64 (.ofNat 7), x1, .int .i64 (.ofNat 6), .slice ⟨.d0, .d0, .d0, .d0⟩ 0 0 16 1, .int .i64 (.ofNat 16), .bool true, .bool false, .str l b, x8, x9, x10, x11, x12, x13, x14, x15⟩, fe, fe, fe, fe, fe, fe, fe, fe, fe, fe, fe, fe, fe, fe, fe⟩ [] hRes := by
  have hl : Nat.ble (Nat.succ 6) 16 = true := rfl
  have ha : Nat.add 0 6 = 6 := rfl
  simp only [b84, cSeq, fLss, hl, w5, W0, cCondT, condK, iteO, cSkip, cBlock, cExit, w2, fIxR 6 _ _ hl, ha, resRd6, fStr_eql, hc, w6, cRet, w1, w0]
  rfl
theorem resYes6 (hc : eqS l b 5 465625706101 = true) (call : FT) (x1 x2 x5 x6 x8 x9 x10 x11 x12 x13 x14 x15 : AV) : b84 call 100000 ⟨⟨.int .i64 (.ofNat 6), x1, x2, .slice ⟨.d0, .d0, .d0, .d0⟩ 0 0 16 1, .int .i64 (.ofNat 16), x5, x6, .str l b, x8, x9, x10, x11, x12, x13, x14, x15⟩, fe, fe, fe, fe, fe, fe, fe, fe, fe, fe, fe, fe, fe, fe, fe⟩ [] hRes = .ret ⟨⟨.int .i64 (.ofNat 6), .int .i64 (.ofNat 6), .int .i64 (.ofNat 6), .slice ⟨.d0, .d0, .d0, .d0⟩ 0 0 16 1, .int .i64 (.ofNat 16), .bool true, .bool true, .str l b, x8, x9, x10, x11, x12, x13, x14, x15⟩, fe, fe, fe, fe, fe, fe, fe, fe, fe, fe, fe, fe, fe, fe, fe⟩ [] hRes := by
  have hl : Nat.ble (Nat.succ 6) 16 = true := rfl
  have ha : Nat.add 0 6 = 6 := rfl
  simp only [b84, cSeq, fLss, hl, w5, W0, cCondT, condK, iteO, cSkip, cBlock, cExit, w2, fIxR 6 _ _ hl, ha, resRd6, fStr_eql, hc, w6, cRet, w1, w0]
theorem resNo7 (hc : eqS l b 2 28516 = false) (call : FT) (x1 x2 x5 x6 x8 x9 x10 x11 x12 x13 x14 x15 : AV) : b84 call 100000 ⟨⟨.int .i64 (.ofNat 7), x1, x2, .slice ⟨.d0, .d0, .d0, .d0⟩ 0 0 16 1, .int .i64 (.ofNat 16), x5, x6, .str l b, x8, x9, x10, x11, x12, x13, x14, x15⟩, fe, fe, fe, fe, fe, fe, fe, fe, fe, fe, fe, fe, fe, fe, fe⟩ [] hRes = .nrm ⟨⟨.int .i64 (.ofNat 8), x1, .int .i64 (.ofNat 7), .slice ⟨.d0, .d0, .d0, .d0⟩ 0 0 16 1, .int .i64 (.ofNat 16), .bool true, .bool false, .str l b, x8, x9, x10, x11, x12, x13, x14, x15⟩, fe, fe, fe, fe, fe, fe, fe, fe, fe, fe, fe, fe, fe, fe, fe⟩ [] hRes := by
  have hl : Nat.ble (Nat.succ 7) 16 = true := rfl
  have ha : Nat.add 0 7 = 7 := rfl
  simp only [b84, cSeq, fLss, hl, w5, W0, cCondT, condK, iteO, cSkip, cBlock, cExit, w2, fIxR 7 _ _ hl, ha, resRd7, fStr_eql, hc, w6, cRet, w1, w0]
  rfl
theorem resYes7 (hc : eqS l b 2 28516 = true) (call : FT) (x1 x2 x5 x6 x8 x9 x10 x11 x12 x13 x14 x15 : AV) : b84 call 100000 ⟨⟨.int .i64 (.ofNat 7), x1, x2, .slice ⟨.d0, .d0, .d0, .d0⟩ 0 0 16 1, .int .i64 (.ofNat 16), x5, x6, .str l b, x8, x9, x10, x11, x12, x13, x14, x15⟩, fe, fe, fe, fe, fe, fe, fe, fe, fe, fe, fe, fe, fe, fe, fe⟩ [] hRes = .ret ⟨⟨.int .i64 (.ofNat 7), .int .i64 (.ofNat 7), .int .i64 (.ofNat 7), .slice ⟨.d0, .d0, .d0, .d0⟩ 0 0 16 1, .int .i64 (.ofNat 16), .bool true, .bool true, .str l b, x8, x9, x10, x11, x12, x13, x14, x15⟩, fe, fe, fe, fe, fe, fe, fe, fe, fe, fe, fe, fe, fe, fe, fe⟩ [] hRes := by
  have hl : Nat.ble (Nat.succ 7) 16 = true := rfl
  have ha : Nat.add 0 7 = 7 := rfl
  simp only [b84, cSeq, fLss, hl, w5, W0, cCondT, condK, iteO, cSkip, cBlock, cExit, w2, fIxR 7 _ _ hl, ha, resRd7, fStr_eql, hc, w6, cRet, w1, w0]
theorem resNo8 (hc : eqS l b 4 1701736292 = false) (call : FT) (x1 x2 x5 x6 x8 x9 x10 x11 x12 x13 x14 x15 : AV) : b84 call 100000 ⟨⟨.int .i64 (.ofNat 8), x1, x2, .slice ⟨.d0, .d0, .d0, .d0⟩ 0 0 16 1, .int .i64 (.ofNat 16), x5, x6, .str l b, x8, x9, x10, x11, x12, x13, x14, x15⟩, fe, fe, fe, fe, fe, fe, fe, fe, fe, fe, fe, fe, fe, fe, fe⟩ [] hRes = .nrm ⟨⟨.int .i64 (.ofNat 9), x1, .int .i64 (.ofNat 8), .slice ⟨.d0, .d0, .d0, .d0⟩ 0 0 16 1, .int .i64 (.ofNat 16), .bool true, .bool false, .str l b, x8, x9, x10, x11, x12, x13, x14, x15⟩, fe, fe, fe, fe, fe, fe, fe, fe, fe, fe, fe, fe, fe, fe, fe⟩ [] hRes := by
  have hl : Nat.ble (Nat.succ 8) 16 = true := rfl
  have ha : Nat.add 0 8 = 8 := rfl
  simp only [b84, cSeq, fLss, hl, w5, W0, cCondT, condK, iteO, cSkip, cBlock, cExit, w2, fIxR 8 _ _ hl, ha, resRd8, fStr_eql, hc, w6, cRet, w1, w0]
  rfl
theorem resYes8 (hc : eqS l b 4 1701736292 = true) (call : FT) (x1 x2 x5 x6 x8 x9 x10 x11 x12 x13 x14 x15 : AV) : b84 call 100000 ⟨⟨.int .i64 (.ofNat 8), x1, x2, .slice ⟨.d0, .d0, .d0, .d0⟩ 0 0 16 1, .int .i64 (.ofNat 16), x5, x6, .str l b, x8, x9, x10, x11, x12, x13, x14, x15⟩, fe, fe, fe, fe, fe, fe, fe, fe, fe, fe, fe, fe, fe, fe, fe⟩ [] hRes = .ret ⟨⟨.int .i64 (.ofNat 8), .int .i64 (.ofNat 8), .int .i64 (.ofNat 8), .slice ⟨.d0, .d0, .d0, .d0⟩ 0 0 16 1, .int .i64 (.ofNat 16), .bool true, .bool true, .str l b, x8, x9, x10, x11, x12, x13, x14, x15⟩, fe, fe, fe, fe, fe, fe, fe, fe, fe, fe, fe, fe, fe, fe, fe⟩ [] hRes := by
  have hl : Nat.ble (Nat.succ 8) 16 = true := rfl
  have ha : Nat.add 0 8 = 8 := rfl
  simp only [b84, cSeq, fLss, hl, w5, W0, cCondT, condK, iteO, cSkip, cBlock, cExit, w2, fIxR 8 _ _ hl, ha, resRd8, fStr_eql, hc, w6, cRet, w1, w0]
theorem resNo9 (hc : eqS l b 3 7499622 = false) (call : FT) (x1 x2 x5 x6 x8 x9 x10 x11 x12 x13 x14 x15 : AV) : b84 call 100000 ⟨⟨.int .i64 (.ofNat 9), x1, x2, .slice ⟨.d0, .d0, .d0, .d0⟩ 0 0 16 1, .int .i64 (.ofNat 16), x5, x6, .str l b, x8, x9, x10, x11, x12, x13, x14, x15⟩, fe, fe, fe, fe, fe, fe, fe, fe, fe, fe, fe, fe, fe, fe, fe⟩ [] hRes = .nrm ⟨⟨.int .i64 (.ofNat 10), x1, .int .i64 (.ofNat 9), .slice ⟨.d0, .d0, .d0, .d0⟩ 0 0 16 1, .int .i64 (.ofNat 16), .bool true, .bool false, .str l b, x8, x9, x10, x11, x12, x13, x14, x15⟩, fe, fe, fe, fe, fe, fe, fe, fe, fe, fe, fe, fe, fe, fe, fe⟩ [] hRes := by
  have hl : Nat.ble (Nat.succ 9) 16 = true := rfl
  have ha : Nat.add 0 9 = 9 := rfl
  simp only [b84, cSeq, fLss, hl, w5, W0, cCondT, condK, iteO, cSkip, cBlock, cExit, w2, fIxR 9 _ _ hl, ha, resRd9, fStr_eql, hc, w6, cRet, w1, w0]
  rfl
theorem resYes9 (hc : eqS l b 3 7499622 = true) (call : FT) (x1 x2 x5 x6 x8 x9 x10 x11 x12 x13 x14 x15 : AV) : b84 call 100000 ⟨⟨.int .i64 (.ofNat 9), x1, x2, .slice ⟨.d0, .d0, .d0, .d0⟩ 0 0 16 1, .int .i64 (.ofNat 16), x5, x6, .str l b, x8, x9, x10, x11, x12, x13, x14, x15⟩, fe, fe, fe, fe, fe, fe, fe, fe, fe, fe, fe, fe, fe, fe, fe⟩ [] hRes = .ret ⟨⟨.int .i64 (.ofNat 9), .int .i64 (.ofNat 9), .int .i64 (.ofNat 9), .slice ⟨.d0, .d0, .d0, .d0⟩ 0 0 16 1, .int .i64 (.ofNat 16), .bool true, .bool true, .str l b, x8, x9, x10, x11, x12, x13, x14, x15⟩, fe, fe, fe, fe, fe, fe, fe, fe, fe, fe, fe, fe, fe, fe, fe⟩ [] hRes := by
  have hl : Nat.ble (Nat.succ 9) 16 = true := rfl
  have ha : Nat.add 0 9 = 9 := rfl
  simp only [b84, cSeq, fLss, hl, w5, W0, cCondT, condK, iteO, cSkip, cBlock, cExit, w2, fIxR 9 _ _ hl, ha, resRd9, fStr_eql, hc, w6, cRet, w1, w0]
theorem resNo10 (hc : eqS l b 4 1702060387 = false) (call : FT) (x1 x2 x5 x6 x8 x9 x10 x11 x12 x13 x14 x15 : AV) : b84 call 100000 ⟨⟨.int .i64 (.ofNat 10), x1, x2, .slice ⟨.d0, .d0, .d0, .d0⟩ 0 0 16 1, .int .i64 (.ofNat 16), x5, x6, .str l b, x8, x9, x10, x11, x12, x13, x14, x15⟩, fe, fe, fe, fe, fe, fe, fe, fe, fe, fe, fe, fe, fe, fe, fe⟩ [] hRes = .nrm ⟨⟨.int .i64 (.ofNat 11), x1, .int .i64 (.ofNat 10), .slice ⟨.d0, .d0, .d0, .d0⟩ 0 0 16 1, .int .i64 (.ofNat 16), .bool true, .bool false, .str l b, x8, x9, x10, x11, x12, x13, x14, x15⟩, fe, fe, fe, fe, fe, fe, fe, fe, fe, fe, fe, fe, fe, fe, fe⟩ [] hRes := by
  have hl : Nat.ble (Nat.succ 10) 16 = true := rfl
  have ha : Nat.add 0 10 = 10 := rfl
  simp only [b84, cSeq, fLss, hl, w5, W0, cCondT, condK, iteO, cSkip, cBlock, cExit, w2, fIxR 10 _ _ hl, ha, resRd10, fStr_eql, hc, w6, cRet, w1, w0]
  rfl
theorem resYes10 (hc : eqS l b 4 1702060387 = true) (call : FT) (x1 x2 x5 x6 x8 x9 x10 x11 x12 x13 x14 x15 : AV) : b84 call 100000 ⟨⟨.int .i64 (.ofNat 10), x1, x2, .slice ⟨.d0, .d0, .d0, .d0⟩ 0 0 16 1, .int .i64 (.ofNat 16), x5, x6, .str l b, x8, x9, x10, x11, x12, x13, x14, x15⟩, fe, fe, fe, fe, fe, fe, fe, fe, fe, fe, fe, fe, fe, fe, fe⟩ [] hRes = .ret ⟨⟨.int .i64 (.ofNat 10), .int .i64 (.ofNat 10), .int .i64 (.ofNat 10), .slice ⟨.d0, .d0, .d0, .d0⟩ 0 0 16 1, .int .i64 (.ofNat 16), .bool true, .bool true, .str l b, x8, x9, x10, x11, x12, x13, x14, x15⟩, fe, fe, fe, fe, fe, fe, fe, fe, fe, fe, fe, fe, fe, fe, fe⟩ [] hRes := by
  have hl : Nat.ble (Nat.succ 10) 16 = true := rfl
  have ha : Nat.add 0 10 = 10 := rfl
  simp only [b84, cSeq, fLss, hl, w5, W0, cCondT, condK, iteO, cSkip, cBlock, cExit, w2, fIxR 10 _ _ hl, ha, resRd10, fStr_eql, hc, w6, cRet, w1, w0]
theorem resNo11 (hc : eqS l b 4 1667330917 = false) (call : FT) (x1 x2 x5 x6 x8 x9 x10 x11 x12 x13 x14 x15 : AV) : b84 call 100000 ⟨⟨.int .i64 (.ofNat 11), x1, x2, .slice ⟨.d0, .d0, .d0, .d0⟩ 0 0 16 1, .int .i64 (.ofNat 16), x5, x6, .str l b, x8, x9, x10, x11, x12, x13, x14, x15⟩, fe, fe, fe, fe, fe, fe, fe, fe, fe, fe, fe, fe, fe, fe, fe⟩ [] hRes = .nrm ⟨⟨.int .i64 (.ofNat 12), x1, .int .i64 (.ofNat 11), .slice ⟨.d0, .d0, .d0, .d0⟩ 0 0 16 1, .int .i64 (.ofNat 16), .bool true, .bool false, .str l b, x8, x9, x10, x11, x12, x13, x14, x15⟩, fe, fe, fe, fe, fe, fe, fe, fe, fe, fe, fe, fe, fe, fe, fe⟩ [] hRes := by
  have hl : Nat.ble (Nat.succ 11) 16 = true := rfl
  have ha : Nat.add 0 11 = 11 := rfl
  simp only [b84, cSeq, fLss, hl, w5, W0, cCondT, condK, iteO, cSkip, cBlock, cExit, w2, fIxR 11 _ _ hl, ha, resRd11, fStr_eql, hc, w6, cRet, w1, w0]
  rfl
theorem resYes11 (hc : eqS l b 4 1667330917 = true) (call : FT) (x1 x2 x5 x6 x8 x9 x10 x11 x12 x13 x14 x15 : AV) : b84 call 100000 ⟨⟨.int .i64 (.ofNat 11), x1, x2, .slice ⟨.d0, .d0, .d0, .d0⟩ 0 0 16 1, .int .i64 (.ofNat 16), x5, x6, .str l b, x8, x9, x10, x11, x12, x13, x14, x15⟩, fe, fe, fe, fe, fe, fe, fe, fe, fe, fe, fe, fe, fe, fe, fe⟩ [] hRes = .ret ⟨⟨.int .i64 (.ofNat 11), .int .i64 (.ofNat 11), .int .i64 (.ofNat 11), .slice ⟨.d0, .d0, .d0, .d0⟩ 0 0 16 1, .int .i64 (.ofNat 16), .bool true, .bool true, .str l b, x8, x9, x10, x11, x12, x13, x14, x15⟩, fe, fe, fe, fe, fe, fe, fe, fe, fe, fe, fe, fe, fe, fe, fe⟩ [] hRes := by
  have hl : Nat.ble (Nat.succ 11) 16 = true := rfl
  have ha : Nat.add 0 11 = 11 := rfl
  simp only [b84, cSeq, fLss, hl, w5, W0, cCondT, condK, iteO, cSkip, cBlock, cExit, w2, fIxR 11 _ _ hl, ha, resRd11, fStr_eql, hc, w6, cRet, w1, w0]
theorem resNo12 (hc : eqS l b 2 28265 = false) (call : FT) (x1 x2 x5 x6 x8 x9 x10 x11 x12 x13 x14 x15 : AV) : b84 call 100000 ⟨⟨.int .i64 (.ofNat 12), x1, x2, .slice ⟨.d0, .d0, .d0, .d0⟩ 0 0 16 1, .int .i64 (.ofNat 16), x5, x6, .str l b, x8, x9, x10, x11, x12, x13, x14, x15⟩, fe, fe, fe, fe, fe, fe, fe, fe, fe, fe, fe, fe, fe, fe, fe⟩ [] hRes = .nrm ⟨⟨.int .i64 (.ofNat 13), x1, .int .i64 (.ofNat 12), .slice ⟨.d0, .d0, .d0, .d0⟩ 0 0 16 1, .int .i64 (.ofNat 16), .bool true, .bool false, .str l b, x8, x9, x10, x11, x12, x13, x14, x15⟩, fe, fe, fe, fe, fe, fe, fe, fe, fe, fe, fe, fe, fe, fe, fe⟩ [] hRes := by
  have hl : Nat.ble (Nat.succ 12) 16 = true := rfl
  have ha : Nat.add 0 12 = 12 := rfl
  simp only [b84, cSeq, fLss, hl, w5, W0, cCondT, condK, iteO, cSkip, cBlock, cExit, w2, fIxR 12 _ _ hl, ha, resRd12, fStr_eql, hc, w6, cRet, w1, w0]
  rfl
theorem resYes12 (hc : eqS l b 2 28265 = true) (call : FT) (x1 x2 x5 x6 x8 x9 x10 x11 x12 x13 x14 x15 : AV) : b84 call 100000 ⟨⟨.int .i64 (.ofNat 12), x1, x2, .slice ⟨.d0, .d0, .d0, .d0⟩ 0 0 16 1, .int .i64 (.ofNat 16), x5, x6, .str l b, x8, x9, x10, x11, x12, x13, x14, x15⟩, fe, fe, fe, fe, fe, fe, fe, fe, fe, fe, fe, fe, fe, fe, fe⟩ [] hRes = .ret ⟨⟨.int .i64 (.ofNat 12), .int .i64 (.ofNat 12), .int .i64 (.ofNat 12), .slice ⟨.d0, .d0, .d0, .d0⟩ 0 0 16 1, .int .i64 (.ofNat 16), .bool true, .bool true, .str l b, x8, x9, x10, x11, x12, x13, x14, x15⟩, fe, fe, fe, fe, fe, fe, fe, fe, fe, fe, fe, fe, fe, fe, fe⟩ [] hRes := by
  have hl : Nat.ble (Nat.succ 12) 16 = true := rfl
  have ha : Nat.add 0 12 = 12 := rfl
  simp only [b84, cSeq, fLss, hl, w5, W0, cCondT, condK, iteO, cSkip, cBlock, cExit, w2, fIxR 12 _ _ hl, ha, resRd12, fStr_eql, hc, w6, cRet, w1, w0]
theorem resNo13 (hc : eqS l b 1 123 = false) (call : FT) (x1 x2 x5 x6 x8 x9 x10 x11 x12 x13 x14 x15 : AV) : b84 call 100000 ⟨⟨.int .i64 (.ofNat 13), x1, x2, .slice ⟨.d0, .d0, .d0, .d0⟩ 0 0 16 1, .int .i64 (.ofNat 16), x5, x6, .str l b, x8, x9, x10, x11, x12, x13, x14, x15⟩, fe, fe, fe, fe, fe, fe, fe, fe, fe, fe, fe, fe, fe, fe, fe⟩ [] hRes = .nrm ⟨⟨.int .i64 (.ofNat 14), x1, .int .i64 (.ofNat 13), .slice ⟨.d0, .d0, .d0, .d0⟩ 0 0 16 1, .int .i64 (.ofNat 16), .bool true, .bool false, .str l b, x8, x9, x10, x11, x12, x13, x14, x15⟩, fe, fe, fe, fe, fe, fe, fe, fe, fe, fe, fe, fe, fe, fe, fe⟩ [] hRes := by
  have hl : Nat.ble (Nat.succ 13) 16 = true := rfl
  have ha : Nat.add 0 13 = 13 := rfl
  simp only [b84, cSeq, fLss, hl, w5, W0, cCondT, condK, iteO, cSkip, cBlock, cExit, w2, fIxR 13 _ _ hl, ha, resRd13, fStr_eql, hc, w6, cRet, w1, w0]
  rfl
theorem resYes13 (hc : eqS l b 1 123 = true) (call : FT) (x1 x2 x5 x6 x8 x9 x10 x11 x12 x13 x14 x15 : AV) : b84 call 100000 ⟨⟨.int .i64 (.ofNat 13), x1, x2, .slice ⟨.d0, .d0, .d0, .d0⟩ 0 0 16 1, .int .i64 (.ofNat 16), x5, x6, .str l b, x8, x9, x10, x11, x12, x13, x14, x15⟩, fe, fe, fe, fe, fe, fe, fe, fe, fe, fe, fe, fe, fe, fe, fe⟩ [] hRes = .ret ⟨⟨.int .i64 (.ofNat 13), .int .i64 (.ofNat 13), .int .i64 (.ofNat 13), .slice ⟨.d0, .d0, .d0, .d0⟩ 0 0 16 1, .int .i64 (.ofNat 16), .bool true, .bool true, .str l b, x8, x9, x10, x11, x12, x13, x14, x15⟩, fe, fe, fe, fe, fe, fe, fe, fe, fe, fe, fe, fe, fe, fe, fe⟩ [] hRes := by
  have hl : Nat.ble (Nat.succ 13) 16 = true := rfl
  have ha : Nat.add 0 13 = 13 := rfl
  simp only [b84, cSeq, fLss, hl, w5, W0, cCondT, condK, iteO, cSkip, cBlock, cExit, w2, fIxR 13 _ _ hl, ha, resRd13, fStr_eql, hc, w6, cRet, w1, w0]
theorem resNo14 (hc : eqS l b 1 125 = false) (call : FT) (x1 x2 x5 x6 x8 x9 x10 x11 x12 x13 x14 x15 : AV) : b84 call 100000 ⟨⟨.int .i64 (.ofNat 14), x1, x2, .slice ⟨.d0, .d0, .d0, .d0⟩ 0 0 16 1, .int .i64 (.ofNat 16), x5, x6, .str l b, x8, x9, x10, x11, x12, x13, x14, x15⟩, fe, fe, fe, fe, fe, fe, fe, fe, fe, fe, fe, fe, fe, fe, fe⟩ [] hRes = .nrm ⟨⟨.int .i64 (.ofNat 15), x1, .int .i64 (.ofNat 14), .slice ⟨.d0, .d0, .d0, .d0⟩ 0 0 16 1, .int .i64 (.ofNat 16), .bool true, .bool false, .str l b, x8, x9, x10, x11, x12, x13, x14, x15⟩, fe, fe, fe, fe, fe, fe, fe, fe, fe, fe, fe, fe, fe, fe, fe⟩ [] hRes := by
  have hl : Nat.ble (Nat.succ 14) 16 = true := rfl
  have ha : Nat.add 0 14 = 14 := rfl
  simp only [b84, cSeq, fLss, hl, w5, W0, cCondT, condK, iteO, cSkip, cBlock, cExit, w2, fIxR 14 _ _ hl, ha, resRd14, fStr_eql, hc, w6, cRet, w1, w0]
  rfl
theorem resYes14 (hc : eqS l b 1 125 = true) (call : FT) (x1 x2 x5 x6 x8 x9 x10 x11 x12 x13 x14 x15 : AV) : b84 call 100000 ⟨⟨.int .i64 (.ofNat 14), x1, x2, .slice ⟨.d0, .d0, .d0, .d0⟩ 0 0 16 1, .int .i64 (.ofNat 16), x5, x6, .str l b, x8, x9, x10, x11, x12, x13, x14, x15⟩, fe, fe, fe, fe, fe, fe, fe, fe, fe, fe, fe, fe, fe, fe, fe⟩ [] hRes = .ret ⟨⟨.int .i64 (.ofNat 14), .int .i64 (.ofNat 14), .int .i64 (.ofNat 14), .slice ⟨.d0, .d0, .d0, .d0⟩ 0 0 16 1, .int .i64 (.ofNat 16), .bool true, .bool true, .str l b, x8, x9, x10, x11, x12, x13, x14, x15⟩, fe, fe, fe, fe, fe, fe, fe, fe, fe, fe, fe, fe, fe, fe, fe⟩ [] hRes := by
  have hl : Nat.ble (Nat.succ 14) 16 = true := rfl
  have ha : Nat.add 0 14 = 14 := rfl
  simp only [b84, cSeq, fLss, hl, w5, W0, cCondT, condK, iteO, cSkip, cBlock, cExit, w2, fIxR 14 _ _ hl, ha, resRd14, fStr_eql, hc, w6, cRet, w1, w0]
theorem resNo15 (hc : eqS l b 1 33 = false) (call : FT) (x1 x2 x5 x6 x8 x9 x10 x11 x12 x13 x14 x15 : AV) : b84 call 100000 ⟨⟨.int .i64 (.ofNat 15), x1, x2, .slice ⟨.d0, .d0, .d0, .d0⟩ 0 0 16 1, .int .i64 (.ofNat 16), x5, x6, .str l b, x8, x9, x10, x11, x12, x13, x14, x15⟩, fe, fe, fe, fe, fe, fe, fe, fe, fe, fe, fe, fe, fe, fe, fe⟩ [] hRes = .nrm ⟨⟨.int .i64 (.ofNat 16), x1, .int .i64 (.ofNat 15), .slice ⟨.d0, .d0, .d0, .d0⟩ 0 0 16 1, .int .i64 (.ofNat 16), .bool true, .bool false, .str l b, x8, x9, x10, x11, x12, x13, x14, x15⟩, fe, fe, fe, fe, fe, fe, fe, fe, fe, fe, fe, fe, fe, fe, fe⟩ [] hRes := by
  have hl : Nat.ble (Nat.succ 15) 16 = true := rfl
  have ha : Nat.add 0 15 = 15 := rfl
  simp only [b84, cSeq, fLss, hl, w5, W0, cCondT, condK, iteO, cSkip, cBlock, cExit, w2, fIxR 15 _ _ hl, ha, resRd15, fStr_eql, hc, w6, cRet, w1, w0]
  rfl
theorem resYes15 (hc : eqS l b 1 33 = true) (call : FT) (x1 x2 x5 x6 x8 x9 x10 x11 x12 x13 x14 x15 : AV) : b84 call 100000 ⟨⟨.int .i64 (.ofNat 15), x1, x2, .slice ⟨.d0, .d0, .d0, .d0⟩ 0 0 16 1, .int .i64 (.ofNat 16), x5, x6, .str l b, x8, x9, x10, x11, x12, x13, x14, x15⟩, fe, fe, fe, fe, fe, fe, fe, fe, fe, fe, fe, fe, fe, fe, fe⟩ [] hRes = .ret ⟨⟨.int .i64 (.ofNat 15), .int .i64 (.ofNat 15), .int .i64 (.ofNat 15), .slice ⟨.d0, .d0, .d0, .d0⟩ 0 0 16 1, .int .i64 (.ofNat 16), .bool true, .bool true, .str l b, x8, x9, x10, x11, x12, x13, x14, x15⟩, fe, fe, fe, fe, fe, fe, fe, fe, fe, fe, fe, fe, fe, fe, fe⟩ [] hRes := by
  have hl : Nat.ble (Nat.succ 15) 16 = true := rfl
  have ha : Nat.add 0 15 = 15 := rfl
  simp only [b84, cSeq, fLss, hl, w5, W0, cCondT, condK, iteO, cSkip, cBlock, cExit, w2, fIxR 15 _ _ hl, ha, resRd15, fStr_eql, hc, w6, cRet, w1, w0]
theorem resEnd (call : FT) (x1 x2 x5 x6 x8 x9 x10 x11 x12 x13 x14 x15 : AV) : b84 call 100000 ⟨⟨.int .i64 (.ofNat 16), x1, x2, .slice ⟨.d0, .d0, .d0, .d0⟩ 0 0 16 1, .int .i64 (.ofNat 16), x5, x6, .str l b, x8, x9, x10, x11, x12, x13, x14, x15⟩, fe, fe, fe, fe, fe, fe, fe, fe, fe, fe, fe, fe, fe, fe, fe⟩ [] hRes = .ext 0 ⟨⟨.int .i64 (.ofNat 16), x1, x2, .slice ⟨.d0, .d0, .d0, .d0⟩ 0 0 16 1, .int .i64 (.ofNat 16), .bool false, x6, .str l b, x8, x9, x10, x11, x12, x13, x14, x15⟩, fe, fe, fe, fe, fe, fe, fe, fe, fe, fe, fe, fe, fe, fe, fe⟩ [] hRes := by
  have hl : Nat.ble (Nat.succ 16) 16 = false := rfl
  simp only [b84, cSeq, fLss, hl, w5, W0, cCondT, condK, iteO, cSkip, cBlock, cExit]
def resFind (l b : Nat) (ws : List (Nat × Nat)) (i : Nat) : Option Nat := List.rec (motive := fun _ => Nat → Option Nat) (fun _ => none) (fun o _ ih i => Bool.rec (motive := fun _ => Option Nat) (ih (Nat.succ i)) (some i) (eqS l b o.1 o.2)) ws i
def ResDone (l b : Nat) (ws : List (Nat × Nat)) (i : Nat) (o : Out) : Prop := ∃ T : Fm, (∃ p : Nat, o = .ret T [] hRes ∧ T.c0.c1 = .int .i64 (.ofNat p) ∧ resFind l b ws i = some p) ∨ (o = .ext 0 T [] hRes ∧ resFind l b ws i = none)
theorem rfind_yes {o : Nat × Nat} {r : List (Nat × Nat)} {i : Nat} (h : eqS l b o.1 o.2 = true) : resFind l b (o :: r) i = some i := by
  show Bool.rec (motive := fun _ => Option Nat) (resFind l b r (Nat.succ i)) (some i) (eqS l b o.1 o.2) = _
  rw [h]
theorem rfind_no {o : Nat × Nat} {r : List (Nat × Nat)} {i : Nat} (h : eqS l b o.1 o.2 = false) : resFind l b (o :: r) i = resFind l b r (Nat.succ i) := by
  show Bool.rec (motive := fun _ => Option Nat) (resFind l b r (Nat.succ i)) (some i) (eqS l b o.1 o.2) = _
  rw [h]
theorem resLp16 (call : FT) (m : Nat) (x1 x2 x5 x6 x8 x9 x10 x11 x12 x13 x14 x15 : AV) : ResDone l b [] 16 (cLoopN (b84 call 100000) (m + 1) ⟨⟨.int .i64 (.ofNat 16), x1, x2, .slice ⟨.d0, .d0, .d0, .d0⟩ 0 0 16 1, .int .i64 (.ofNat 16), x5, x6, .str l b, x8, x9, x10, x11, x12, x13, x14, x15⟩, fe, fe, fe, fe, fe, fe, fe, fe, fe, fe, fe, fe, fe, fe, fe⟩ [] hRes) :=
  ⟨_, .inr ⟨loop_ext (resEnd call x1 x2 x5 x6 x8 x9 x10 x11 x12 x13 x14 x15), rfl⟩⟩
theorem resLp15 (call : FT) (m : Nat) (x1 x2 x5 x6 x8 x9 x10 x11 x12 x13 x14 x15 : AV) : ResDone l b [(1, 33)] 15 (cLoopN (b84 call 100000) (m + 2) ⟨⟨.int .i64 (.ofNat 15), x1, x2, .slice ⟨.d0, .d0, .d0, .d0⟩ 0 0 16 1, .int .i64 (.ofNat 16), x5, x6, .str l b, x8, x9, x10, x11, x12, x13, x14, x15⟩, fe, fe, fe, fe, fe, fe, fe, fe, fe, fe, fe, fe, fe, fe, fe⟩ [] hRes) := by
  cases hc : eqS l b 1 33 with
  | true => exact ⟨_, .inl ⟨15, loop_ret (resYes15 hc call x1 x2 x5 x6 x8 x9 x10 x11 x12 x13 x14 x15), rfl, rfind_yes hc⟩⟩
  | false =>
    have := resLp16 (l := l) (b := b) call m x1 (.int .i64 (.ofNat 15)) (.bool true) (.bool false) x8 x9 x10 x11 x12 x13 x14 x15
    rw [← loop_nrm (resNo15 hc call x1 x2 x5 x6 x8 x9 x10 x11 x12 x13 x14 x15)] at this
    obtain ⟨T, h | h⟩ := this
    · obtain ⟨p, e1, e2, e3⟩ := h
      exact ⟨T, .inl ⟨p, e1, e2, (rfind_no (o := (1, 33)) hc).trans e3⟩⟩
    · exact ⟨T, .inr ⟨h.1, (rfind_no (o := (1, 33)) hc).trans h.2⟩⟩
theorem resLp14 (call : FT) (m : Nat) (x1 x2 x5 x6 x8 x9 x10 x11 x12 x13 x14 x15 : AV) : ResDone l b [(1, 125), (1, 33)] 14 (cLoopN (b84 call 100000) (m + 3) ⟨⟨.int .i64 (.ofNat 14), x1, x2, .slice ⟨.d0, .d0, .d0, .d0⟩ 0 0 16 1, .int .i64 (.ofNat 16), x5, x6, .str l b, x8, x9, x10, x11, x12, x13, x14, x15⟩, fe, fe, fe, fe, fe, fe, fe, fe, fe, fe, fe, fe, fe, fe, fe⟩ [] hRes) := by
  cases hc : eqS l b 1 125 with
  | true => exact ⟨_, .inl ⟨14, loop_ret (resYes14 hc call x1 x2 x5 x6 x8 x9 x10 x11 x12 x13 x14 x15), rfl, rfind_yes hc⟩⟩
  | false =>
    have := resLp15 (l := l) (b := b) call m x1 (.int .i64 (.ofNat 14)) (.bool true) (.bool false) x8 x9 x10 x11 x12 x13 x14 x15
    rw [← loop_nrm (resNo14 hc call x1 x2 x5 x6 x8 x9 x10 x11 x12 x13 x14 x15)] at this
    obtain ⟨T, h | h⟩ := this
    · obtain ⟨p, e1, e2, e3⟩ := h
      exact ⟨T, .inl ⟨p, e1, e2, (rfind_no (o := (1, 125)) hc).trans e3⟩⟩
    · exact ⟨T, .inr ⟨h.1, (rfind_no (o := (1, 125)) hc).trans h.2⟩⟩
theorem resLp13 (call : FT) (m : Nat) (x1 x2 x5 x6 x8 x9 x10 x11 x12 x13 x14 x15 : AV) : ResDone l b [(1, 123), (1, 125), (1, 33)] 13 (cLoopN (b84 call 100000) (m + 4) ⟨⟨.int .i64 (.ofNat 13), x1, x2, .slice ⟨.d0, .d0, .d0, .d0⟩ 0 0 16 1, .int .i64 (.ofNat 16), x5, x6, .str l b, x8, x9, x10, x11, x12, x13, x14, x15⟩, fe, fe, fe, fe, fe, fe, fe, fe, fe, fe, fe, fe, fe, fe, fe⟩ [] hRes) := by
  cases hc : eqS l b 1 123 with
  | true => exact ⟨_, .inl ⟨13, loop_ret (resYes13 hc call x1 x2 x5 x6 x8 x9 x10 x11 x12 x13 x14 x15), rfl, rfind_yes hc⟩⟩
  | false =>
    have := resLp14 (l := l) (b := b) call m x1 (.int .i64 (.ofNat 13)) (.bool true) (.bool false) x8 x9 x10 x11 x12 x13 x14 x15
    rw [← loop_nrm (resNo13 hc call x1 x2 x5 x6 x8 x9 x10 x11 x12 x13 x14 x15)] at this
    obtain ⟨T, h | h⟩ := this
    · obtain ⟨p, e1, e2, e3⟩ := h
      exact ⟨T, .inl ⟨p, e1, e2, (rfind_no (o := (1, 123)) hc).trans e3⟩⟩
    · exact ⟨T, .inr ⟨h.1, (rfind_no (o := (1, 123)) hc).trans h.2⟩⟩
theorem resLp12 (call : FT) (m : Nat) (x1 x2 x5 x6 x8 x9 x10 x11 x12 x13 x14 x15 : AV) : ResDone l b [(2, 28265), (1, 123), (1, 125), (1, 33)] 12 (cLoopN (b84 call 100000) (m + 5) ⟨⟨.int .i64 (.ofNat 12), x1, x2, .slice ⟨.d0, .d0, .d0, .d0⟩ 0 0 16 1, .int .i64 (.ofNat 16), x5, x6, .str l b, x8, x9, x10, x11, x12, x13, x14, x15⟩, fe, fe, fe, fe, fe, fe, fe, fe, fe, fe, fe, fe, fe, fe, fe⟩ [] hRes) := by
  cases hc : eqS l b 2 28265 with
  | true => exact ⟨_, .inl ⟨12, loop_ret (resYes12 hc call x1 x2 x5 x6 x8 x9 x10 x11 x12 x13 x14 x15), rfl, rfind_yes hc⟩⟩
  | false =>
    have := resLp13 (l := l) (b := b) call m x1 (.int .i64 (.ofNat 12)) (.bool true) (.bool false) x8 x9 x10 x11 x12 x13 x14 x15
    rw [← loop_nrm (resNo12 hc call x1 x2 x5 x6 x8 x9 x10 x11 x12 x13 x14 x15)] at this
    obtain ⟨T, h | h⟩ := this
    · obtain ⟨p, e1, e2, e3⟩ := h
      exact ⟨T, .inl ⟨p, e1, e2, (rfind_no (o := (2, 28265)) hc).trans e3⟩⟩
    · exact ⟨T, .inr ⟨h.1, (rfind_no (o := (2, 28265)) hc).trans h.2⟩⟩
theorem resLp11 (call : FT) (m : Nat) (x1 x2 x5 x6 x8 x9 x10 x11 x12 x13 x14 x15 : AV) : ResDone l b [(4, 1667330917), (2, 28265), (1, 123), (1, 125), (1, 33)] 11 (cLoopN (b84 call 100000) (m + 6) ⟨⟨.int .i64 (.ofNat 11), x1, x2, .slice ⟨.d0, .d0, .d0, .d0⟩ 0 0 16 1, .int .i64 (.ofNat 16), x5, x6, .str l b, x8, x9, x10, x11, x12, x13, x14, x15⟩, fe, fe, fe, fe, fe, fe, fe, fe, fe, fe, fe, fe, fe, fe, fe⟩ [] hRes) := by
  cases hc : eqS l b 4 1667330917 with
  | true => exact ⟨_, .inl ⟨11, loop_ret (resYes11 hc call x1 x2 x5 x6 x8 x9 x10 x11 x12 x13 x14 x15), rfl, rfind_yes hc⟩⟩
  | false =>
    have := resLp12 (l := l) (b := b) call m x1 (.int .i64 (.ofNat 11)) (.bool true) (.bool false) x8 x9 x10 x11 x12 x13 x14 x15
    rw [← loop_nrm (resNo11 hc call x1 x2 x5 x6 x8 x9 x10 x11 x12 x13 x14 x15)] at this
    obtain ⟨T, h | h⟩ := this
    · obtain ⟨p, e1, e2, e3⟩ := h
      exact ⟨T, .inl ⟨p, e1, e2, (rfind_no (o := (4, 1667330917)) hc).trans e3⟩⟩
    · exact ⟨T, .inr ⟨h.1, (rfind_no (o := (4, 1667330917)) hc).trans h.2⟩⟩
theorem resLp10 (call : FT) (m : Nat) (x1 x2 x5 x6 x8 x9 x10 x11 x12 x13 x14 x15 : AV) : ResDone l b [(4, 1702060387), (4, 1667330917), (2, 28265), (1, 123), (1, 125), (1, 33)] 10 (cLoopN (b84 call 100000) (m + 7) ⟨⟨.int .i64 (.ofNat 10), x1, x2, .slice ⟨.d0, .d0, .d0, .d0⟩ 0 0 16 1, .int .i64 (.ofNat 16), x5, x6, .str l b, x8, x9, x10, x11, x12, x13, x14, x15⟩, fe, fe, fe, fe, fe, fe, fe, fe, fe, fe, fe, fe, fe, fe, fe⟩ [] hRes) := by
  cases hc : eqS l b 4 1702060387 with
  | true => exact ⟨_, .inl ⟨10, loop_ret (resYes10 hc call x1 x2 x5 x6 x8 x9 x10 x11 x12 x13 x14 x15), rfl, rfind_yes hc⟩⟩
  | false =>
    have := resLp11 (l := l) (b := b) call m x1 (.int .i64 (.ofNat 10)) (.bool true) (.bool false) x8 x9 x10 x11 x12 x13 x14 x15
    rw [← loop_nrm (resNo10 hc call x1 x2 x5 x6 x8 x9 x10 x11 x12 x13 x14 x15)] at this
    obtain ⟨T, h | h⟩ := this
    · obtain ⟨p, e1, e2, e3⟩ := h
      exact ⟨T, .inl ⟨p, e1, e2, (rfind_no (o := (4, 1702060387)) hc).trans e3⟩⟩
    · exact ⟨T, .inr ⟨h.1, (rfind_no (o := (4, 1702060387)) hc).trans h.2⟩⟩
theorem resLp9 (call : FT) (m : Nat) (x1 x2 x5 x6 x8 x9 x10 x11 x12 x13 x14 x15 : AV) : ResDone l b [(3, 7499622), (4, 1702060387), (4, 1667330917), (2, 28265), (1, 123), (1, 125), (1, 33)] 9 (cLoopN (b84 call 100000) (m + 8) ⟨⟨.int .i64 (.ofNat 9), x1, x2, .slice ⟨.d0, .d0, .d0, .d0⟩ 0 0 16 1, .int .i64 (.ofNat 16), x5, x6, .str l b, x8, x9, x10, x11, x12, x13, x14, x15⟩, fe, fe, fe, fe, fe, fe, fe, fe, fe, fe, fe, fe, fe, fe, fe⟩ [] hRes) := by
  cases hc : eqS l b 3 7499622 with
  | true => exact ⟨_, .inl ⟨9, loop_ret (resYes9 hc call x1 x2 x5 x6 x8 x9 x10 x11 x12 x13 x14 x15), rfl, rfind_yes hc⟩⟩
  | false =>
    have := resLp10 (l := l) (b := b) call m x1 (.int .i64 (.ofNat 9)) (.bool true) (.bool false) x8 x9 x10 x11 x12 x13 x14 x15
    rw [← loop_nrm (resNo9 hc call x1 x2 x5 x6 x8 x9 x10 x11 x12 x13 x14 x15)] at this
    obtain ⟨T, h | h⟩ := this
    · obtain ⟨p, e1, e2, e3⟩ := h
      exact ⟨T, .inl ⟨p, e1, e2, (rfind_no (o := (3, 7499622)) hc).trans e3⟩⟩
    · exact ⟨T, .inr ⟨h.1, (rfind_no (o := (3, 7499622)) hc).trans h.2⟩⟩
theorem resLp8 (call : FT) (m : Nat) (x1 x2 x5 x6 x8 x9 x10 x11 x12 x13 x14 x15 : AV) : ResDone l b [(4, 1701736292), (3, 7499622), (4, 1702060387), (4, 1667330917), (2, 28265), (1, 123), (1, 125), (1, 33)] 8 (cLoopN (b84 call 100000) (m + 9) ⟨⟨.int .i64 (.ofNat 8), x1, x2, .slice ⟨.d0, .d0, .d0, .d0⟩ 0 0 16 1, .int .i64 (.ofNat 16), x5, x6, .str l b, x8, x9, x10, x11, x12, x13, x14, x15⟩, fe, fe, fe, fe, fe, fe, fe, fe, fe, fe, fe, fe, fe, fe, fe⟩ [] hRes) := by
  cases hc : eqS l b 4 1701736292 with
  | true => exact ⟨_, .inl ⟨8, loop_ret (resYes8 hc call x1 x2 x5 x6 x8 x9 x10 x11 x12 x13 x14 x15), rfl, rfind_yes hc⟩⟩
  | false =>
    have := resLp9 (l := l) (b := b) call m x1 (.int .i64 (.ofNat 8)) (.bool true) (.bool false) x8 x9 x10 x11 x12 x13 x14 x15
    rw [← loop_nrm (resNo8 hc call x1 x2 x5 x6 x8 x9 x10 x11 x12 x13 x14 x15)] at this
    obtain ⟨T, h | h⟩ := this
    · obtain ⟨p, e1, e2, e3⟩ := h
      exact ⟨T, .inl ⟨p, e1, e2, (rfind_no (o := (4, 1701736292)) hc).trans e3⟩⟩
    · exact ⟨T, .inr ⟨h.1, (rfind_no (o := (4, 1701736292)) hc).trans h.2⟩⟩
theorem resLp7 (call : FT) (m : Nat) (x1 x2 x5 x6 x8 x9 x10 x11 x12 x13 x14 x15 : AV) : ResDone l b [(2, 28516), (4, 1701736292), (3, 7499622), (4, 1702060387), (4, 1667330917), (2, 28265), (1, 123), (1, 125), (1, 33)] 7 (cLoopN (b84 call 100000) (m + 10) ⟨⟨.int .i64 (.ofNat 7), x1, x2, .slice ⟨.d0, .d0, .d0, .d0⟩ 0 0 16 1, .int .i64 (.ofNat 16), x5, x6, .str l b, x8, x9, x10, x11, x12, x13, x14, x15⟩, fe, fe, fe, fe, fe, fe, fe, fe, fe, fe, fe, fe, fe, fe, fe⟩ [] hRes) := by
  cases hc : eqS l b 2 28516 with
  | true => exact ⟨_, .inl ⟨7, loop_ret (resYes7 hc call x1 x2 x5 x6 x8 x9 x10 x11 x12 x13 x14 x15), rfl, rfind_yes hc⟩⟩
  | false =>
    have := resLp8 (l := l) (b := b) call m x1 (.int .i64 (.ofNat 7)) (.bool true) (.bool false) x8 x9 x10 x11 x12 x13 x14 x15
    rw [← loop_nrm (resNo7 hc call x1 x2 x5 x6 x8 x9 x10 x11 x12 x13 x14 x15)] at this
    obtain ⟨T, h | h⟩ := this
    · obtain ⟨p, e1, e2, e3⟩ := h
      exact ⟨T, .inl ⟨p, e1, e2, (rfind_no (o := (2, 28516)) hc).trans e3⟩⟩
    · exact ⟨T, .inr ⟨h.1, (rfind_no (o := (2, 28516)) hc).trans h.2⟩⟩
theorem resLp6 (call : FT) (m : Nat) (x1 x2 x5 x6 x8 x9 x10 x11 x12 x13 x14 x15 : AV) : ResDone l b [(5, 465625706101), (2, 28516), (4, 1701736292), (3, 7499622), (4, 1702060387), (4, 1667330917), (2, 28265), (1, 123), (1, 125), (1, 33)] 6 (cLoopN (b84 call 100000) (m + 11) ⟨⟨.int .i64 (.ofNat 6), x1, x2, .slice ⟨.d0, .d0, .d0, .d0⟩ 0 0 16 1, .int .i64 (.ofNat 16), x5, x6, .str l b, x8, x9, x10, x11, x12, x13, x14, x15⟩, fe, fe, fe, fe, fe, fe, fe, fe, fe, fe, fe, fe, fe, fe, fe⟩ [] hRes) := by
  cases hc : eqS l b 5 465625706101 with
  | true => exact ⟨_, .inl ⟨6, loop_ret (resYes6 hc call x1 x2 x5 x6 x8 x9 x10 x11 x12 x13 x14 x15), rfl, rfind_yes hc⟩⟩
  | false =>
    have := resLp7 (l := l) (b := b) call m x1 (.int .i64 (.ofNat 6)) (.bool true) (.bool false) x8 x9 x10 x11 x12 x13 x14 x15
    rw [← loop_nrm (resNo6 hc call x1 x2 x5 x6 x8 x9 x10 x11 x12 x13 x14 x15)] at this
    obtain ⟨T, h | h⟩ := this
    · obtain ⟨p, e1, e2, e3⟩ := h
      exact ⟨T, .inl ⟨p, e1, e2, (rfind_no (o := (5, 465625706101)) hc).trans e3⟩⟩
    · exact ⟨T, .inr ⟨h.1, (rfind_no (o := (5, 465625706101)) hc).trans h.2⟩⟩
theorem resLp5 (call : FT) (m : Nat) (x1 x2 x5 x6 x8 x9 x10 x11 x12 x13 x14 x15 : AV) : ResDone l b [(5, 435610544247), (5, 465625706101), (2, 28516), (4, 1701736292), (3, 7499622), (4, 1702060387), (4, 1667330917), (2, 28265), (1, 123), (1, 125), (1, 33)] 5 (cLoopN (b84 call 100000) (m + 12) ⟨⟨.int .i64 (.ofNat 5), x1, x2, .slice ⟨.d0, .d0, .d0, .d0⟩ 0 0 16 1, .int .i64 (.ofNat 16), x5, x6, .str l b, x8, x9, x10, x11, x12, x13, x14, x15⟩, fe, fe, fe, fe, fe, fe, fe, fe, fe, fe, fe, fe, fe, fe, fe⟩ [] hRes) := by
  cases hc : eqS l b 5 435610544247 with
  | true => exact ⟨_, .inl ⟨5, loop_ret (resYes5 hc call x1 x2 x5 x6 x8 x9 x10 x11 x12 x13 x14 x15), rfl, rfind_yes hc⟩⟩
  | false =>
    have := resLp6 (l := l) (b := b) call m x1 (.int .i64 (.ofNat 5)) (.bool true) (.bool false) x8 x9 x10 x11 x12 x13 x14 x15
    rw [← loop_nrm (resNo5 hc call x1 x2 x5 x6 x8 x9 x10 x11 x12 x13 x14 x15)] at this
    obtain ⟨T, h | h⟩ := this
    · obtain ⟨p, e1, e2, e3⟩ := h
      exact ⟨T, .inl ⟨p, e1, e2, (rfind_no (o := (5, 435610544247)) hc).trans e3⟩⟩
    · exact ⟨T, .inr ⟨h.1, (rfind_no (o := (5, 435610544247)) hc).trans h.2⟩⟩
theorem resLp4 (call : FT) (m : Nat) (x1 x2 x5 x6 x8 x9 x10 x11 x12 x13 x14 x15 : AV) : ResDone l b [(2, 26982), (5, 435610544247), (5, 465625706101), (2, 28516), (4, 1701736292), (3, 7499622), (4, 1702060387), (4, 1667330917), (2, 28265), (1, 123), (1, 125), (1, 33)] 4 (cLoopN (b84 call 100000) (m + 13) ⟨⟨.int .i64 (.ofNat 4), x1, x2, .slice ⟨.d0, .d0, .d0, .d0⟩ 0 0 16 1, .int .i64 (.ofNat 16), x5, x6, .str l b, x8, x9, x10, x11, x12, x13, x14, x15⟩, fe, fe, fe, fe, fe, fe, fe, fe, fe, fe, fe, fe, fe, fe, fe⟩ [] hRes) := by
  cases hc : eqS l b 2 26982 with
  | true => exact ⟨_, .inl ⟨4, loop_ret (resYes4 hc call x1 x2 x5 x6 x8 x9 x10 x11 x12 x13 x14 x15), rfl, rfind_yes hc⟩⟩
  | false =>
    have := resLp5 (l := l) (b := b) call m x1 (.int .i64 (.ofNat 4)) (.bool true) (.bool false) x8 x9 x10 x11 x12 x13 x14 x15
    rw [← loop_nrm (resNo4 hc call x1 x2 x5 x6 x8 x9 x10 x11 x12 x13 x14 x15)] at this
    obtain ⟨T, h | h⟩ := this
    · obtain ⟨p, e1, e2, e3⟩ := h
      exact ⟨T, .inl ⟨p, e1, e2, (rfind_no (o := (2, 26982)) hc).trans e3⟩⟩
    · exact ⟨T, .inr ⟨h.1, (rfind_no (o := (2, 26982)) hc).trans h.2⟩⟩
theorem resLp3 (call : FT) (m : Nat) (x1 x2 x5 x6 x8 x9 x10 x11 x12 x13 x14 x15 : AV) : ResDone l b [(4, 1718185061), (2, 26982), (5, 435610544247), (5, 465625706101), (2, 28516), (4, 1701736292), (3, 7499622), (4, 1702060387), (4, 1667330917), (2, 28265), (1, 123), (1, 125), (1, 33)] 3 (cLoopN (b84 call 100000) (m + 14) ⟨⟨.int .i64 (.ofNat 3), x1, x2, .slice ⟨.d0, .d0, .d0, .d0⟩ 0 0 16 1, .int .i64 (.ofNat 16), x5, x6, .str l b, x8, x9, x10, x11, x12, x13, x14, x15⟩, fe, fe, fe, fe, fe, fe, fe, fe, fe, fe, fe, fe, fe, fe, fe⟩ [] hRes) := by
  cases hc : eqS l b 4 1718185061 with
  | true => exact ⟨_, .inl ⟨3, loop_ret (resYes3 hc call x1 x2 x5 x6 x8 x9 x10 x11 x12 x13 x14 x15), rfl, rfind_yes hc⟩⟩
  | false =>
    have := resLp4 (l := l) (b := b) call m x1 (.int .i64 (.ofNat 3)) (.bool true) (.bool false) x8 x9 x10 x11 x12 x13 x14 x15
    rw [← loop_nrm (resNo3 hc call x1 x2 x5 x6 x8 x9 x10 x11 x12 x13 x14 x15)] at this
    obtain ⟨T, h | h⟩ := this
    · obtain ⟨p, e1, e2, e3⟩ := h
      exact ⟨T, .inl ⟨p, e1, e2, (rfind_no (o := (4, 1718185061)) hc).trans e3⟩⟩
    · exact ⟨T, .inr ⟨h.1, (rfind_no (o := (4, 1718185061)) hc).trans h.2⟩⟩
theorem resLp2 (call : FT) (m : Nat) (x1 x2 x5 x6 x8 x9 x10 x11 x12 x13 x14 x15 : AV) : ResDone l b [(4, 1702063205), (4, 1718185061), (2, 26982), (5, 435610544247), (5, 465625706101), (2, 28516), (4, 1701736292), (3, 7499622), (4, 1702060387), (4, 1667330917), (2, 28265), (1, 123), (1, 125), (1, 33)] 2 (cLoopN (b84 call 100000) (m + 15) ⟨⟨.int .i64 (.ofNat 2), x1, x2, .slice ⟨.d0, .d0, .d0, .d0⟩ 0 0 16 1, .int .i64 (.ofNat 16), x5, x6, .str l b, x8, x9, x10, x11, x12, x13, x14, x15⟩, fe, fe, fe, fe, fe, fe, fe, fe, fe, fe, fe, fe, fe, fe, fe⟩ [] hRes) := by
  cases hc : eqS l b 4 1702063205 with
  | true => exact ⟨_, .inl ⟨2, loop_ret (resYes2 hc call x1 x2 x5 x6 x8 x9 x10 x11 x12 x13 x14 x15), rfl, rfind_yes hc⟩⟩
  | false =>
    have := resLp3 (l := l) (b := b) call m x1 (.int .i64 (.ofNat 2)) (.bool true) (.bool false) x8 x9 x10 x11 x12 x13 x14 x15
    rw [← loop_nrm (resNo2 hc call x1 x2 x5 x6 x8 x9 x10 x11 x12 x13 x14 x15)] at this
    obtain ⟨T, h | h⟩ := this
    · obtain ⟨p, e1, e2, e3⟩ := h
      exact ⟨T, .inl ⟨p, e1, e2, (rfind_no (o := (4, 1702063205)) hc).trans e3⟩⟩
    · exact ⟨T, .inr ⟨h.1, (rfind_no (o := (4, 1702063205)) hc).trans h.2⟩⟩
theorem resLp1 (call : FT) (m : Nat) (x1 x2 x5 x6 x8 x9 x10 x11 x12 x13 x14 x15 : AV) : ResDone l b [(4, 1852139636), (4, 1702063205), (4, 1718185061), (2, 26982), (5, 435610544247), (5, 465625706101), (2, 28516), (4, 1701736292), (3, 7499622), (4, 1702060387), (4, 1667330917), (2, 28265), (1, 123), (1, 125), (1, 33)] 1 (cLoopN (b84 call 100000) (m + 16) ⟨⟨.int .i64 (.ofNat 1), x1, x2, .slice ⟨.d0, .d0, .d0, .d0⟩ 0 0 16 1, .int .i64 (.ofNat 16), x5, x6, .str l b, x8, x9, x10, x11, x12, x13, x14, x15⟩, fe, fe, fe, fe, fe, fe, fe, fe, fe, fe, fe, fe, fe, fe, fe⟩ [] hRes) := by
  cases hc : eqS l b 4 1852139636 with
  | true => exact ⟨_, .inl ⟨1, loop_ret (resYes1 hc call x1 x2 x5 x6 x8 x9 x10 x11 x12 x13 x14 x15), rfl, rfind_yes hc⟩⟩
  | false =>
    have := resLp2 (l := l) (b := b) call m x1 (.int .i64 (.ofNat 1)) (.bool true) (.bool false) x8 x9 x10 x11 x12 x13 x14 x15
    rw [← loop_nrm (resNo1 hc call x1 x2 x5 x6 x8 x9 x10 x11 x12 x13 x14 x15)] at this
    obtain ⟨T, h | h⟩ := this
    · obtain ⟨p, e1, e2, e3⟩ := h
      exact ⟨T, .inl ⟨p, e1, e2, (rfind_no (o := (4, 1852139636)) hc).trans e3⟩⟩
    · exact ⟨T, .inr ⟨h.1, (rfind_no (o := (4, 1852139636)) hc).trans h.2⟩⟩
theorem resLp0 (call : FT) (m : Nat) (x1 x2 x5 x6 x8 x9 x10 x11 x12 x13 x14 x15 : AV) : ResDone l b [(2, 26217), (4, 1852139636), (4, 1702063205), (4, 1718185061), (2, 26982), (5, 435610544247), (5, 465625706101), (2, 28516), (4, 1701736292), (3, 7499622), (4, 1702060387), (4, 1667330917), (2, 28265), (1, 123), (1, 125), (1, 33)] 0 (cLoopN (b84 call 100000) (m + 17) ⟨⟨.int .i64 (.ofNat 0), x1, x2, .slice ⟨.d0, .d0, .d0, .d0⟩ 0 0 16 1, .int .i64 (.ofNat 16), x5, x6, .str l b, x8, x9, x10, x11, x12, x13, x14, x15⟩, fe, fe, fe, fe, fe, fe, fe, fe, fe, fe, fe, fe, fe, fe, fe⟩ [] hRes) := by
  cases hc : eqS l b 2 26217 with
  | true => exact ⟨_, .inl ⟨0, loop_ret (resYes0 hc call x1 x2 x5 x6 x8 x9 x10 x11 x12 x13 x14 x15), rfl, rfind_yes hc⟩⟩
  | false =>
    have := resLp1 (l := l) (b := b) call m x1 (.int .i64 (.ofNat 0)) (.bool true) (.bool false) x8 x9 x10 x11 x12 x13 x14 x15
    rw [← loop_nrm (resNo0 hc call x1 x2 x5 x6 x8 x9 x10 x11 x12 x13 x14 x15)] at this
    obtain ⟨T, h | h⟩ := this
    · obtain ⟨p, e1, e2, e3⟩ := h
      exact ⟨T, .inl ⟨p, e1, e2, (rfind_no (o := (2, 26217)) hc).trans e3⟩⟩
    · exact ⟨T, .inr ⟨h.1, (rfind_no (o := (2, 26217)) hc).trans h.2⟩⟩
def resWs : List (Nat × Nat) := [(2, 26217), (4, 1852139636), (4, 1702063205), (4, 1718185061), (2, 26982), (5, 435610544247), (5, 465625706101), (2, 28516), (4, 1701736292), (3, 7499622), (4, 1702060387), (4, 1667330917), (2, 28265), (1, 123), (1, 125), (1, 33)]
def ixAns (l b : Nat) : Int := Option.rec (motive := fun _ => Int) (.negSucc 0) (fun p => .ofNat p) (resFind l b resWs 0)
theorem ix84 (m : Nat) : evF envA 100000 (m + 1) p84 [.slice ⟨.d0, .d0, .d0, .d0⟩ 0 0 16 1, .str l b] hRes = .ok (.int .i64 (ixAns l b)) hRes := by
  have hlen : ∀ k : KV, fSllen (.slice ⟨.d0, .d0, .d0, .d0⟩ 0 0 16 1) hRes k = k (.int .i64 (.ofNat 16)) hRes := fun k => rfl
  have hbody : ∃ T : Fm, a84.body (evF envA 100000 m) 100000 ⟨⟨.top, .top, .top, .slice ⟨.d0, .d0, .d0, .d0⟩ 0 0 16 1, .top, .top, .top, .str l b, .top, .top, .top, .top, .top, .top, .top, .top⟩, fe, fe, fe, fe, fe, fe, fe, fe, fe, fe, fe, fe, fe, fe, fe⟩ [] hRes = .ret T [] hRes ∧ T.c0.c1 = .int .i64 (ixAns l b) := by
    obtain ⟨T, hT | hT⟩ := resLp0 (l := l) (b := b) (evF envA 100000 m) 99983 (.int .i64 (.ofNat 0)) .top .top .top .top .top .top .top .top .top .top .top
    · obtain ⟨p, e1, e2, e3⟩ := hT
      refine ⟨T, ?_, ?_⟩
      · simp only [a84_body, B84, cSeq, w1, W0, hlen, w4, w0, cBlock, cLoop]
        have e : cLoopN (b84 (evF envA 100000 m) 100000) 100000 ⟨⟨.int .i64 (.ofNat 0), .int .i64 (.ofNat 0), .top, .slice ⟨.d0, .d0, .d0, .d0⟩ 0 0 16 1, .int .i64 (.ofNat 16), .top, .top, .str l b, .top, .top, .top, .top, .top, .top, .top, .top⟩, fe, fe, fe, fe, fe, fe, fe, fe, fe, fe, fe, fe, fe, fe, fe⟩ [] hRes = .ret T [] hRes := e1
        rw [e]
      · rw [e2]; unfold ixAns resWs; rw [e3]
    · obtain ⟨e1, e3⟩ := hT
      refine ⟨(⟨⟨T.c0.c0, .int .i64 (.negSucc 0), T.c0.c2, T.c0.c3, T.c0.c4, T.c0.c5, T.c0.c6, T.c0.c7, T.c0.c8, T.c0.c9, T.c0.c10, T.c0.c11, T.c0.c12, T.c0.c13, T.c0.c14, T.c0.c15⟩, T.c1, T.c2, T.c3, T.c4, T.c5, T.c6, T.c7, T.c8, T.c9, T.c10, T.c11, T.c12, T.c13, T.c14, T.c15⟩ : Fm), ?_, ?_⟩
      · simp only [a84_body, B84, cSeq, w1, W0, hlen, w4, w0, cBlock, cLoop]
        have e : cLoopN (b84 (evF envA 100000 m) 100000) 100000 ⟨⟨.int .i64 (.ofNat 0), .int .i64 (.ofNat 0), .top, .slice ⟨.d0, .d0, .d0, .d0⟩ 0 0 16 1, .int .i64 (.ofNat 16), .top, .top, .str l b, .top, .top, .top, .top, .top, .top, .top, .top⟩, fe, fe, fe, fe, fe, fe, fe, fe, fe, fe, fe, fe, fe, fe, fe⟩ [] hRes = .ext 0 T [] hRes := e1
        rw [e]
        rfl
      · unfold ixAns resWs; rw [e3]
  obtain ⟨T, hT, hv⟩ := hbody
  show cLeave _ a84 (a84.body (evF envA 100000 m) 100000 _ [] hRes) = _
  refine (congrArg (cLeave _ a84) hT).trans ?_
  show CR.ok T.c0.c1 hRes = _
  rw [hv]
def geI (n : Int) : Bool := bnot (ltI n (.ofNat 0))
theorem in75 (m : Nat) : evF envA 100000 (m + 2) p75 [.slice ⟨.d0, .d0, .d0, .d0⟩ 0 0 16 1, .str l b] hRes = .ok (.bool (geI (ixAns l b))) hRes := by
  have e : ∀ k : KV, fCall p84 [.slice ⟨.d0, .d0, .d0, .d0⟩ 0 0 16 1, .str l b] (evF envA 100000 (m + 1)) hRes k = k (.int .i64 (ixAns l b)) hRes := fun k => by
    show kc k (evF envA 100000 (m + 1) p84 _ hRes) = _
    rw [ix84]; rfl
  have g : ∀ (n : Int) (k : KV), fBin .geq (.int .i64 n) (.int .i64 (.ofNat 0)) hRes k = k (.bool (geI n)) hRes := fun n k => rfl
  show cLeave _ a75 (a75.body (evF envA 100000 (m + 1)) 100000 _ [] hRes) = _
  simp only [a75, cSeq, w0, W0, cRet, e, g]
  rfl
theorem re64 : evF envA 100000 3 p64 [.str l b] emptyH = .ok (.bool (geI (ixAns l b))) hRes := by
  have e : ∀ k : KV, fCall p75 [.slice ⟨.d0, .d0, .d0, .d0⟩ 0 0 16 1, .str l b] (evF envA 100000 2) hRes k = k (.bool (geI (ixAns l b))) hRes := fun k => by
    show kc k (evF envA 100000 2 p75 _ hRes) = _
    rw [in75]; rfl
  show cLeave _ a64 (a64.body (evF envA 100000 2) 100000 _ [] emptyH) = _
  simp only [a64, cSeq, w0, W0, cRet, fEl_s, resMk, e]
  rfl
end
def pRes (vs : List AV) : Option AV := List.rec (motive := fun _ => Option AV) none (fun v l _ => List.rec (motive := fun _ => Option AV) (strO v fun l b => some (.bool (geI (ixAns l b)))) (fun _ _ _ => none) l) vs
theorem pRes_some : ∀ {vs : List AV} {u : AV}, pRes vs = some u → ∃ l b, vs = [.str l b] ∧ u = .bool (geI (ixAns l b))
  | [], _, h => by cases h
  | _ :: _ :: _, _, h => by cases h
  | [v], u, h => by
    have h0 : (strO v fun l b => some (.bool (geI (ixAns l b)))) = some u := h
    clear h
    obtain ⟨l, b, e1, h1⟩ := strO_some h0
    subst e1; cases h1
    exact ⟨l, b, rfl, rfl⟩
theorem res_ok : PrimOk Go.Proofs.Try.prog p64 pRes := fun vs v hv base μ w xs H hR hx => by
  obtain ⟨l, b, rfl, rfl⟩ := pRes_some hv
  exact closed_plain (evF_ok follows envA_ok 3) re64 (plain_bool _) (fun _ _ h => by cases h with | cons _ _ _ _ h1 h2 => cases h2; exact .cons _ _ _ _ (plain_str _ _ _ _ _ h1) .nil) hR hx
end
end Go.Ev
