/- The abstract machine: from the model to its operations; regions, with and without a drawn order. -/
import Derived.Test.YtpmgingpmfmdfaaEa
import Derived.LoopN
import Derived.Scope
import Derived.Orders
set_option linter.unusedVariables false
/- From the model's operations to the abstract machine's: constants, operands, calls. -/
namespace Go.Ev
noncomputable section
variable {Pr : Program}

def D.ofN (n : Nat) : D := match n with
  | 0 => .d0 | 1 => .d1 | 2 => .d2 | 3 => .d3 | 4 => .d4 | 5 => .d5 | 6 => .d6 | 7 => .d7 | 8 => .d8 | 9 => .d9 | 10 => .d10 | 11 => .d11 | 12 => .d12 | 13 => .d13 | 14 => .d14 | _ => .d15
def P.ofN (n : Nat) : P := ⟨D.ofN (Nat.mod n 16), D.ofN (Nat.mod (Nat.div n 16) 16), D.ofN (Nat.mod (Nat.div n 256) 16), D.ofN (Nat.mod (Nat.div n 4096) 16)⟩
def P.ofF (_ n : Nat) : Option P := bif Nat.beq (P.nat (P.ofN n)) n then some (P.ofN n) else none
theorem P.ofF_nat (f n : Nat) (p : P) (h : P.ofF f n = Option.some p) : P.nat p = n := by
  unfold P.ofF at h
  cases hb : Nat.beq (P.nat (P.ofN n)) n with
  | false => rw [hb] at h; cases h
  | true =>
    rw [hb, cond_true] at h
    cases h
    exact Nat.eq_of_beq_eq_true hb

/-! ### constants -/
def const0 : Value → Option AV
  | .bool b => some (.bool b)
  | .int k (.ofNat m) => bif Nat.ble m (limHi k) then some (.int k (.ofNat m)) else none
  | .int k (.negSucc m) => bif Nat.blt m (limLo k) then some (.int k (.negSucc m)) else none
  | .string s => some (.str s.size (enc s.data.toList))
  | .pointer none => some .nilp
  | .slice none 0 0 => some .nils
  | .nilFunc => some .nilFunc
  | .nilIface => some .nilIface
  | _ => none
theorem const0_rel {v : Value} {x : AV} (h : const0 v = some x) : One x ∧ ∀ μ, VRel μ x v := by
  unfold const0 at h
  split at h
  · cases h; exact ⟨trivial, fun _ => .bool _⟩
  · rename_i k m
    cases hb : Nat.ble m (limHi k) with
    | false => rw [hb] at h; cases h
    | true =>
      rw [hb] at h; cases h
      have h1 := Nat.le_of_ble_eq_true hb
      have h2 : -(limLo k : Int) ≤ ((m : Nat) : Int) := by omega
      have h3 : ((m : Nat) : Int) ≤ limHi k := by omega
      exact ⟨trivial, fun _ => .int _ _ ⟨h2, h3⟩⟩
  · rename_i k m
    cases hb : Nat.blt m (limLo k) with
    | false => rw [hb] at h; cases h
    | true =>
      rw [hb] at h; cases h
      have := natB hb
      exact ⟨trivial, fun _ => .int _ _ ⟨by rw [Int.negSucc_eq]; omega, by rw [Int.negSucc_eq]; omega⟩⟩
  · cases h; exact ⟨trivial, fun _ => .str _⟩
  · cases h; exact ⟨trivial, fun _ => .nilp⟩
  · cases h; exact ⟨trivial, fun _ => .nils⟩
  · cases h; exact ⟨trivial, fun _ => .nilFunc⟩
  · cases h; exact ⟨trivial, fun _ => .nilIface⟩
  · cases h
def constL : List Value → Option (List AV)
  | [] => some []
  | v :: vs => (const0 v).bind fun x => (constL vs).bind fun xs => some (x :: xs)
theorem constL_cst : ∀ {vs : List Value} {z : List AV}, constL vs = some z → Cst z vs
  | [], z, h => by simp [constL] at h; subst h; exact ⟨fun _ => .nil, by simp⟩
  | v :: vs, z, h => by
    obtain ⟨x, hx, h⟩ := Option.bind_eq_some_iff.1 h
    obtain ⟨xs, hxs, h⟩ := Option.bind_eq_some_iff.1 h
    cases h
    obtain ⟨o1, r1⟩ := const0_rel hx
    obtain ⟨r2, o2⟩ := constL_cst hxs
    refine ⟨fun μ => .cons _ _ _ _ (r1 μ) (r2 μ), ?_⟩
    intro c hc
    rcases List.mem_cons.1 hc with rfl | hc
    · exact o1
    · exact o2 c hc
def constV : Value → Option AV
  | .agg cs => (constL cs.toList).bind fun z => some (.agg z)
  | .tuple cs => match cs.toList with | [] => some .undef | _ => none
  | v => const0 v
theorem constV_rel {v : Value} {x : AV} (h : constV v = some x) (μ : M) : VRel μ x v := by
  unfold constV at h
  split at h
  · rename_i cs
    obtain ⟨z, hz, h⟩ := Option.bind_eq_some_iff.1 h
    cases h
    obtain ⟨r, o⟩ := constL_cst hz
    exact .agg z cs.toList (r μ) o
  · rename_i cs
    split at h
    · rename_i hcs
      cases h
      have : cs = #[] := by cases cs; simpa using hcs
      subst this
      exact .undef
    · cases h
  · exact (const0_rel h).2 μ

/-! ### operands -/
abbrev xlN (n : Nat) : XT := xl n
def ixOf (t : Tmp) : List (Option Tmp) → Nat → Option Nat
  | [], _ => none
  | d :: ds, n => bif d == some t then some n else ixOf t ds (n + 1)
def rdOp (last : List (Option Tmp)) (slot : Tmp → Option Sl) : Operand → Option XT
  | .tmp t => match ixOf t last 0 with
    | some n => some (xlN n)
    | none => (slot t).bind fun p => some (xt p)
  | .const v => (constV v).bind fun x => some (xc x)
  | .func f => (P.ofF 40 f).bind fun p => some (xc (.fn p [] []))
  | .global _ => none
def Reads (μ : M) (a : Act) (L : List AV) (T : Fm) (rd : Operand → Option XT) : Prop := ∀ y x, rd y = some x → Rd μ (x L T) (a.eval y)

theorem rd_xl {μ : M} {L : List AV} {T : Fm} {n : Nat} {v : Value} (h : ∀ u, L[n]? = some u → VRel μ u v) : Rd μ (xlN n L T) v :=
  (show Hands (nthK (.fail 80) L n) fun u => VRel μ u v from (hands_nthK 80 L n).mono fun v hv => h v hv)
theorem rd_xt {μ : M} {L : List AV} {T : Fm} {p : Sl} {v : Value} (h : ∀ u, T.at p = some u → VRel μ u v) : Rd μ (xt p L T) v :=
  .inl ⟨T.get p, h _ rfl, fun _ => rfl⟩
theorem reads_of {μ : M} {a : Act} {L : List AV} {T : Fm} {last : List (Option Tmp)} {slot : Tmp → Option Sl}
    (hl : ∀ t n u, ixOf t last 0 = some n → L[n]? = some u → VRel μ u (a.eval (.tmp t)))
    (ht : ∀ t p u, ixOf t last 0 = none → slot t = some p → T.at p = some u → VRel μ u (a.eval (.tmp t))) : Reads μ a L T (rdOp last slot) := by
  intro y x h
  unfold rdOp at h
  split at h
  · rename_i t
    split at h
    · rename_i n hn
      cases h
      exact rd_xl fun u hu => hl t n u hn hu
    · rename_i hn
      obtain ⟨p, hp, h⟩ := Option.bind_eq_some_iff.1 h
      cases h
      exact rd_xt fun u hu => ht t p u hn hp hu
  · rename_i v
    obtain ⟨u, hu, h⟩ := Option.bind_eq_some_iff.1 h
    cases h
    exact .inl ⟨u, constV_rel hu μ, fun _ => rfl⟩
  · rename_i f
    obtain ⟨p, hp, h⟩ := Option.bind_eq_some_iff.1 h
    cases h
    have := P.ofF_nat _ _ _ hp
    subst this
    exact .inl ⟨_, VRel.fn p [] [] [] [] .nil .nil, fun _ => rfl⟩
  · cases h

/-! ### calls -/
/-- what the model's function answers -/
def RunsTo (Pr : Program) (f : FuncId) (args : Array Value) (w : World) (R : Value → World → Prop) : Prop :=
  ((callFunc f args).run Pr w = .ok (.enter f args) w ∧ Calls Pr f args w fun e w' => ∃ x, e = .returned x ∧ R x w') ∨ ∃ x w', (callFunc f args).run Pr w = .ok (.value x) w' ∧ R x w'
def CallOk (Pr : Program) (call : FT) : Prop := ∀ f vs H v H', call f vs H = .ok v H' → ∀ base μ w xs, Rel μ H w base → VRels μ vs xs → RunsTo Pr f.nat xs.toArray w (Post base μ w v H')

theorem does_call {o : Oper} {a : Act} {w : World} {R : Value → World → Prop} {f : FuncId} {args : Array Value} (h : (execOp a.eval o).run Pr w = (callFunc f args).run Pr w) (hR : RunsTo Pr f args w R) : Does Pr o a w R := by
  intro next Q hn
  unfold Oper.wp
  rw [h]
  rcases hR with ⟨h1, h2⟩ | ⟨x, w', h1, h2⟩
  · rw [h1]
    refine Calls.mono h2 fun e w' he => ?_
    obtain ⟨x, rfl, hx⟩ := he
    exact hn x w' hx
  · rw [h1]
    exact hn x w' h2
section
variable {o : Oper} {a : Act} {w : World} {base : Nat} {μ : M} {H : AH} {call : FT} {L : List AV} {T : Fm}
theorem det_kc {r : CR} {R : AV → AH → Prop} (h : ∀ v H', r = .ok v H' → R v H') : Det (fun k => kc k r) R := by
  cases r with
  | ok v H' => exact Det.pure (h v H' rfl)
  | fail n => exact Det.fail n
theorem snd_call {f : P} {xs : List XT} {ys ts} (hcall : CallOk Pr call) (hx : Hands (rds L T xs) fun vs => VRels μ vs (ys.map a.eval).toList) (hR : Rel μ H w base)
    (ho : o.op = .call { callee := .value (.func f.nat), args := ys, argTypes := ts }) : Snd Pr o a w base μ (hCall f xs call L T H) := by
  unfold hCall
  refine Hands.det (g := fun vs k => kc k (call f vs H)) hx fun vs hvs => det_kc fun v H' hc => ?_
  have := hcall f vs H v H' hc base μ w _ hR hvs
  rw [Array.toArray_toList] at this
  refine does_call ?_ this
  simp [execOp, ho, resolve, Act.eval, Deferred.ofValue, invoke]
theorem snd_callv {x : XT} {y : Operand} {xs : List XT} {ys ts} (hcall : CallOk Pr call) (hy : Rd μ (x L T) (a.eval y)) (hx : Hands (rds L T xs) fun vs => VRels μ vs (ys.map a.eval).toList) (hR : Rel μ H w base)
    (ho : o.op = .call { callee := .value y, args := ys, argTypes := ts }) : Snd Pr o a w base μ (hCallv x xs call L T H) := by
  unfold hCallv
  refine Hands.det (g := fun v k => rds L T xs fun vs => fCallv v vs call H k) hy fun v hv => ?_
  refine Hands.det (g := fun vs k => fCallv v vs call H k) hx fun vs hvs => ?_
  unfold fCallv
  refine Hands.det (g := fun (p : P × List AV × List AV) k => kc k (call p.1 (lapp p.2.1 (lapp vs p.2.2)) H)) (hands_fnK v) fun p hp => ?_
  subst hp
  refine det_kc fun v H' hc => ?_
  rw [lapp_eq, lapp_eq] at hc
  generalize hce : a.eval y = cv at hv
  cases hv with
  | fn f av cc xv yv hxv hyv =>
  have := hcall _ _ H v H' hc base μ w _ hR (hxv.append (hvs.append hyv))
  refine does_call ?_ this
  have e : xv.toArray ++ (Array.map a.eval ys ++ yv.toArray) = (xv ++ (List.map a.eval ys.toList ++ yv)).toArray := by
    apply Array.ext'; simp
  simp [execOp, ho, resolve, hce, Deferred.ofValue, invoke, e]
end
end
end Go.Ev
/- From the model's operations to the abstract machine's: one operation. -/
namespace Go.Ev
noncomputable section
variable {Pr : Program}

def cp1 (rd : Operand → Option XT) (y : Operand) (f : XT → HT) : Option HT := (rd y).bind fun x => some (f x)
def cp2 (rd : Operand → Option XT) (y z : Operand) (f : XT → XT → HT) : Option HT := (rd y).bind fun x => (rd z).bind fun u => some (f x u)
theorem cp1_some {rd : Operand → Option XT} {y : Operand} {f : XT → HT} {h : HT} (hh : cp1 rd y f = some h) : ∃ x, rd y = some x ∧ h = f x := by
  obtain ⟨x, hx, hh⟩ := Option.bind_eq_some_iff.1 hh
  exact ⟨x, hx, by cases hh; rfl⟩
theorem cp2_some {rd : Operand → Option XT} {y z : Operand} {f : XT → XT → HT} {h : HT} (hh : cp2 rd y z f = some h) : ∃ x u, rd y = some x ∧ rd z = some u ∧ h = f x u := by
  obtain ⟨x, hx, hh⟩ := Option.bind_eq_some_iff.1 hh
  obtain ⟨u, hu, hh⟩ := Option.bind_eq_some_iff.1 hh
  exact ⟨x, u, hx, hu, by cases hh; rfl⟩
def rdsL (rd : Operand → Option XT) : List Operand → Option (List XT)
  | [] => some []
  | y :: ys => (rd y).bind fun x => (rdsL rd ys).bind fun xs => some (x :: xs)
theorem rdsL_some {rd : Operand → Option XT} : ∀ {ys : List Operand} {xs : List XT}, rdsL rd ys = some xs → xs.length = ys.length ∧ ∀ (i : Nat) x y, xs[i]? = some x → ys[i]? = some y → rd y = some x
  | [], xs, h => by cases h; exact ⟨rfl, by simp⟩
  | y :: ys, xs, h => by
    obtain ⟨x, hx, h⟩ := Option.bind_eq_some_iff.1 h
    obtain ⟨xs', hxs, h⟩ := Option.bind_eq_some_iff.1 h
    cases h
    obtain ⟨h1, h2⟩ := rdsL_some hxs
    refine ⟨by simp [h1], fun i u v hu hv => ?_⟩
    cases i with
    | zero => simp at hu hv; subst hu; subst hv; exact hx
    | succ i => exact h2 i u v (by simpa using hu) (by simpa using hv)
theorem hands_rdsL {rd : Operand → Option XT} {ys : List Operand} {xs : List XT} (h : rdsL rd ys = some xs) {μ : M} {a : Act} {L : List AV} {T : Fm} (hr : Reads μ a L T rd) : Hands (rds L T xs) fun vs => VRels μ vs (ys.map a.eval) :=
  hands_rds (rdsL_some h).1 fun i x y hx hy => hr y x ((rdsL_some h).2 i x y hx hy)

def zeroL (Pr : Program) (t : TypeId) : Option (TypeInfo × List AV) :=
  (Pr.info? t).bind fun i => i.zero.bind fun zv => (constL zv.cells.toList).bind fun z => bif Nat.beq z.length i.size then some (i, z) else none
theorem zeroL_some {t : TypeId} {i : TypeInfo} {z : List AV} (h : zeroL Pr t = some (i, z)) : ∃ zv, Pr.info? t = some i ∧ i.zero = some zv ∧ Cst z zv.cells.toList ∧ z.length = i.size := by
  obtain ⟨j, hj, h⟩ := Option.bind_eq_some_iff.1 h
  obtain ⟨zv, hz, h⟩ := Option.bind_eq_some_iff.1 h
  obtain ⟨y, hy, h⟩ := Option.bind_eq_some_iff.1 h
  cases hb : Nat.beq y.length j.size with
  | false => rw [hb] at h; cases h
  | true => rw [hb] at h; cases h; exact ⟨zv, hj, hz, constL_cst hy, Nat.eq_of_beq_eq_true hb⟩

def placesOf (Pr : Program) (t : TypeId) : Option (Array Value × (Nat → Option (Nat × Nat))) :=
  match Pr.info? t, Pr.underlying t with
  | some it, some (.array _ e) =>
    match it.zero, Pr.info? e with
    | some z, some ie => some (z.cells, fun i => some (i * ie.size, ie.size))
    | _, _ => none
  | some it, some (.struct fields) =>
    match it.zero, fields.toList.mapM (fun f => (Pr.info? f.type).map fun i => (f.offset, i.size)) with
    | some z, some places => some (z.cells, (places.toArray[·]?))
    | _, _ => none
  | _, _ => none
theorem placesOf_built {t : TypeId} {zc : Array Value} {place : Nat → Option (Nat × Nat)} (h : placesOf Pr t = some (zc, place)) (vs : List (Nat × Value)) : Pr.built t vs = Instr.fill place zc vs := by
  unfold placesOf at h
  unfold Program.built
  split at h
  · rename_i hi hu
    rw [hi, hu]
    dsimp only
    split at h
    · rename_i hz he
      rw [hz, he]; cases h; rfl
    · cases h
  · rename_i hi hu
    rw [hi, hu]
    dsimp only
    split at h
    · rename_i hz he
      rw [hz, he]; cases h; rfl
    · cases h
  · cases h
def partsL (rd : Operand → Option XT) (place : Nat → Option (Nat × Nat)) : List (Nat × Operand) → Option (List (Nat × Nat × XT))
  | [] => some []
  | q :: qs => (place q.1).bind fun p => (rd q.2).bind fun x => (partsL rd place qs).bind fun r => some ((p.1, p.2, x) :: r)
theorem partsL_ok {rd : Operand → Option XT} {place : Nat → Option (Nat × Nat)} {μ : M} {a : Act} {L : List AV} {T : Fm} (hr : Reads μ a L T rd) : ∀ {qs : List (Nat × Operand)} {ps : List (Nat × Nat × XT)}, partsL rd place qs = some ps → PartsOk μ L T a place ps qs
  | [], ps, h => by cases h; exact trivial
  | q :: qs, ps, h => by
    obtain ⟨p, hp, h⟩ := Option.bind_eq_some_iff.1 h
    obtain ⟨x, hx, h⟩ := Option.bind_eq_some_iff.1 h
    obtain ⟨r, hr', h⟩ := Option.bind_eq_some_iff.1 h
    cases h
    exact ⟨hp, hr _ _ hx, partsL_ok hr hr'⟩
def cpBuild (Pr : Program) (rd : Operand → Option XT) (t : TypeId) (qs : Array (Nat × Operand)) : Option HT :=
  (placesOf Pr t).bind fun zp => (constL zp.1.toList).bind fun z => (partsL rd zp.2 qs.toList).bind fun ps => some (hBuild z ps)
def bsL (rd : Operand → Option XT) : Nat → Nat → List (Nat × Operand) → Option (List (Option XT))
  | 0, _, [] => some []
  | 0, _, _ :: _ => none
  | n + 1, i, [] => (bsL rd n (i + 1) []).bind fun r => some (none :: r)
  | n + 1, i, q :: qs => bif Nat.beq q.1 i then (rd q.2).bind fun x => (bsL rd n (i + 1) qs).bind fun r => some (some x :: r) else (bsL rd n (i + 1) (q :: qs)).bind fun r => some (none :: r)
theorem bsL_ok {rd : Operand → Option XT} {μ : M} {a : Act} {L : List AV} {T : Fm} (hr : Reads μ a L T rd) : ∀ {n i : Nat} {qs : List (Nat × Operand)} {xs : List (Option XT)}, bsL rd n i qs = some xs → xs.length = n ∧ BsOk μ L T a i xs qs
  | 0, _, [], xs, h => by cases h; exact ⟨rfl, trivial⟩
  | 0, _, _ :: _, xs, h => by cases h
  | n + 1, i, [], xs, h => by
    obtain ⟨r, hr', h⟩ := Option.bind_eq_some_iff.1 h
    cases h
    obtain ⟨h1, h2⟩ := bsL_ok hr hr'
    exact ⟨by simp [h1], h2⟩
  | n + 1, i, q :: qs, xs, h => by
    unfold bsL at h
    cases hb : Nat.beq q.1 i with
    | true =>
      rw [hb, cond_true] at h
      obtain ⟨x, hx, h⟩ := Option.bind_eq_some_iff.1 h
      obtain ⟨r, hr', h⟩ := Option.bind_eq_some_iff.1 h
      cases h
      obtain ⟨h1, h2⟩ := bsL_ok hr hr'
      exact ⟨by simp [h1], Nat.eq_of_beq_eq_true hb, hr _ _ hx, h2⟩
    | false =>
      rw [hb, cond_false] at h
      obtain ⟨r, hr', h⟩ := Option.bind_eq_some_iff.1 h
      cases h
      obtain ⟨h1, h2⟩ := bsL_ok hr hr'
      exact ⟨by simp [h1], h2⟩
def cpBslice (Pr : Program) (rd : Operand → Option XT) (t : TypeId) (len : Nat) (qs : Array (Nat × Operand)) : Option HT :=
  match Pr.underlying t with
  | some (.slice e) => (zeroL Pr e).bind fun iz => (bsL rd len 0 qs.toList).bind fun xs => bif Nat.ble (len * iz.1.size) 16777216 then bif Nat.beq (len * iz.1.size) 0 then none else some (hBslice iz.1.size len iz.2 xs) else none
  | _ => none
def cpLoad (Pr : Program) (rd : Operand → Option XT) (t : TypeId) (y : Operand) : Option HT :=
  (Pr.underlying t).bind fun _ => (Pr.info? t).bind fun i => cp1 rd y (hLoad (if aggB Pr t then some i.size else none))
def cpBin (Pr : Program) (rd : Operand → Option XT) (op : BinOp) (t : TypeId) (y z : Operand) : Option HT :=
  match Pr.underlying t with
  | some (.int _) => match op with | .shr => cp2 rd y z hShr | .and => cp2 rd y z hAnd | .rem => cp2 rd y z hRem | _ => cp2 rd y z (hBin op)
  | some .string => cp2 rd y z (hBin op)
  | some (.pointer _) => match op with | .eql => cp2 rd y z (hEqNilP false) | .neq => cp2 rd y z (hEqNilP true) | _ => none
  | some (.slice _) => match op with | .eql => cp2 rd y z (hEqNilS false) | .neq => cp2 rd y z (hEqNilS true) | _ => none
  | some .bool => match op with | .eql => cp2 rd y z (hEqB false) | .neq => cp2 rd y z (hEqB true) | _ => none
  | _ => none
def cpConv (Pr : Program) (rd : Operand → Option XT) (s d : TypeId) (y : Operand) : Option HT :=
  match Pr.underlying s, Pr.underlying d with
  | some (.int _), some (.int .u8) => cp1 rd y hConv8
  | some (.int _), some (.int j) => cp1 rd y (hConv j)
  | some (.slice e), some .string => match Pr.underlying e with | some (.int .u8) => cp1 rd y hOfBytes | _ => none
  | _, _ => none
def sameOpd : Operand → Operand → Bool
  | .tmp a, .tmp b => Nat.beq a b
  | .const (.int j (.ofNat n)), .const (.int j' (.ofNat n')) => Nat.beq (kno j) (kno j') && Nat.beq n n'
  | _, _ => false
theorem sameOpd_eq {x y : Operand} (h : sameOpd x y = true) : x = y := by
  unfold sameOpd at h
  split at h
  · rw [Nat.eq_of_beq_eq_true h]
  · simp only [Bool.and_eq_true] at h
    rw [kno_inj h.1, Nat.eq_of_beq_eq_true h.2]
  · cases h
def cpMkslice (Pr : Program) (rd : Operand → Option XT) (t : TypeId) (l c : Operand) : Option HT :=
  match Pr.underlying t with
  | some (.slice e) => (zeroL Pr e).bind fun iz => bif sameOpd l c then bif Nat.ble iz.1.bytes 1048576 then cp1 rd l (hMkslice iz.1.size iz.2) else none else none
  | _ => none
def rdO (rd : Operand → Option XT) : Option Operand → Option (Option XT)
  | none => some none
  | some y => (rd y).bind fun x => some (some x)
theorem rdO_ok {rd : Operand → Option XT} {y : Option Operand} {x : Option XT} (h : rdO rd y = some x) {μ : M} {a : Act} {L : List AV} {T : Fm} (hr : Reads μ a L T rd) : BndOk μ L T a x y := by
  cases y with
  | none => cases h; exact trivial
  | some y =>
    obtain ⟨x', hx, h⟩ := Option.bind_eq_some_iff.1 h
    cases h
    exact hr _ _ hx
def cpSlice (Pr : Program) (rd : Operand → Option XT) (t : TypeId) (y : Operand) (lo hi : Option Operand) : Option HT :=
  (rd y).bind fun x => (rdO rd lo).bind fun l => (rdO rd hi).bind fun h => match Pr.underlying t with
  | some .string => some (hSubstr x l h)
  | some (.slice e) => (Pr.info? e).bind fun i => some (hSubsl i.size x l h)
  | _ => none
def cpFaddr (Pr : Program) (rd : Operand → Option XT) (t : TypeId) (y : Operand) (f : Nat) : Option HT :=
  match Pr.underlying t with
  | some (.struct fs) => (fs[f]?).bind fun fd => (Pr.info? fd.type).bind fun i => bif Nat.beq i.size 0 then none else cp1 rd y (hFaddr fd.offset i.size)
  | _ => none
def cpField (Pr : Program) (rd : Operand → Option XT) (t : TypeId) (y : Operand) (f : Nat) : Option HT :=
  match Pr.underlying t with
  | some (.struct fs) => (fs[f]?).bind fun fd => (Pr.underlying fd.type).bind fun _ => bif aggB Pr fd.type then (Pr.info? fd.type).bind fun i => cp1 rd y (hFieldN fd.offset i.size) else cp1 rd y (hField1 fd.offset)
  | _ => none
def cpIaddr (Pr : Program) (rd : Operand → Option XT) (t : TypeId) (y z : Operand) : Option HT :=
  match Pr.underlying t with
  | some (.slice e) => (Pr.info? e).bind fun i => cp2 rd y z (hIaddr i.size)
  | _ => none
def cpIndex (Pr : Program) (rd : Operand → Option XT) (t : TypeId) (y z : Operand) : Option HT :=
  match Pr.underlying t with
  | some .string => cp2 rd y z hSidx
  | _ => none
def cpLen (Pr : Program) (rd : Operand → Option XT) (ys : List Operand) (ts : List TypeId) : Option HT :=
  match ys, ts with
  | [y], [t] => match Pr.underlying t with | some .string => cp1 rd y hStrlen | some (.slice _) => cp1 rd y hSllen | _ => none
  | _, _ => none
def cpAppend (Pr : Program) (rd : Operand → Option XT) (ys : List Operand) (ts : List TypeId) : Option HT :=
  match ys, ts with
  | [y, z], [t, t'] => bif Nat.beq t t' then match Pr.underlying t with | some (.slice e) => (zeroL Pr e).bind fun iz => bif Nat.ble iz.1.bytes 1048576 then cp2 rd y z (hAppend iz.1.size) else none | _ => none else none
  | _, _ => none
def cpMin (rd : Operand → Option XT) (f : XT → List XT → HT) : List Operand → Option HT
  | y :: ys => (rd y).bind fun x => (rdsL rd ys).bind fun xs => some (f x xs)
  | [] => none
def cpCall (Pr : Program) (rd : Operand → Option XT) (c : Call) : Option HT :=
  match c.callee with
  | .value (.func f) => (P.ofF 40 f).bind fun p => (rdsL rd c.args.toList).bind fun xs => some (hCall p xs)
  | .value (.tmp t) => (rd (.tmp t)).bind fun x => (rdsL rd c.args.toList).bind fun xs => some (hCallv x xs)
  | .builtin .len => cpLen Pr rd c.args.toList c.argTypes.toList
  | .builtin .append => cpAppend Pr rd c.args.toList c.argTypes.toList
  | .builtin .min => cpMin rd hMin c.args.toList
  | .builtin .max => cpMin rd hMax c.args.toList
  | _ => none
def compOp (Pr : Program) (rd : Operand → Option XT) : Op → Option HT
  | .move y => cp1 rd y hMv
  | .assign y => cp1 rd y hMv
  | .pick c y z => (rd c).bind fun x => cp2 rd y z (hPick x)
  | .alloc t => (zeroL Pr t).bind fun iz => some (hAlloc iz.1.size iz.2)
  | .box t y => (Pr.info? t).bind fun i => cp1 rd y (hBox i.size)
  | .build t qs => cpBuild Pr rd t qs
  | .buildSlice t len qs => cpBslice Pr rd t len qs
  | .load t y => cpLoad Pr rd t y
  | .store t y z => (Pr.info? t).bind fun i => cp2 rd y z (hStore i.size)
  | .nilCheck y => cp1 rd y hNilc
  | .binOp op t y z _ => cpBin Pr rd op t y z
  | .unOp .not _ y => cp1 rd y hNot
  | .unOp .neg _ y => cp1 rd y hNeg
  | .convert s d y => cpConv Pr rd s d y
  | .makeFunc (.func f) ys zs => (P.ofF 40 f).bind fun p => (rdsL rd ys.toList).bind fun xs => (rdsL rd zs.toList).bind fun us => some (hMkfn p xs us)
  | .makeSlice t l c => cpMkslice Pr rd t l c
  | .slice t y lo hi none => cpSlice Pr rd t y lo hi
  | .fieldAddr t y f => cpFaddr Pr rd t y f
  | .field t y f => cpField Pr rd t y f
  | .indexAddr t y z => cpIaddr Pr rd t y z
  | .index t y z => cpIndex Pr rd t y z
  | .extract y i => cp1 rd y fun x => hExt x i
  | .call c => cpCall Pr rd c
  | _ => none

section
variable {o : Oper} {a : Act} {w : World} {base : Nat} {μ : M} {H : AH} {call : FT} {L : List AV} {T : Fm} {rd : Operand → Option XT} {h : HT}

theorem cpBuild_snd {t : TypeId} {qs : Array (Nat × Operand)} (hh : cpBuild Pr rd t qs = some h) (hr : Reads μ a L T rd) (hR : Rel μ H w base) (ho : o.op = .build t qs) : Snd Pr o a w base μ (h call L T H) := by
  obtain ⟨⟨zc, place⟩, hp, hh⟩ := Option.bind_eq_some_iff.1 hh
  obtain ⟨z, hz, hh⟩ := Option.bind_eq_some_iff.1 hh
  obtain ⟨ps, hps, hh⟩ := Option.bind_eq_some_iff.1 hh
  cases hh
  exact snd_build (zv := .agg zc) hR ho (constL_cst hz) (fun vs cells hf => by rw [placesOf_built hp]; exact hf) (partsL_ok hr hps)
theorem cpBslice_snd {t : TypeId} {len : Nat} {qs : Array (Nat × Operand)} (hh : cpBslice Pr rd t len qs = some h) (hr : Reads μ a L T rd) (hR : Rel μ H w base) (ho : o.op = .buildSlice t len qs) : Snd Pr o a w base μ (h call L T H) := by
  unfold cpBslice at hh
  split at hh
  · rename_i e ht
    obtain ⟨⟨i, z⟩, hz, hh⟩ := Option.bind_eq_some_iff.1 hh
    obtain ⟨xs, hxs, hh⟩ := Option.bind_eq_some_iff.1 hh
    obtain ⟨zv, z1, z2, z3, z4⟩ := zeroL_some hz
    obtain ⟨b1, b2⟩ := bsL_ok hr hxs
    dsimp only at hh
    cases hb : Nat.ble (len * i.size) 16777216 with
    | false => rw [hb] at hh; cases hh
    | true =>
      rw [hb, cond_true] at hh
      cases hb2 : Nat.beq (len * i.size) 0 with
      | true => rw [hb2] at hh; cases hh
      | false =>
        rw [hb2] at hh; cases hh
        exact snd_bslice hR ho ht z1 z2 rfl z3 z4 b1 (Nat.le_of_ble_eq_true hb) (Nat.ne_of_beq_eq_false hb2) b2
  · cases hh
theorem cpLoad_snd {t : TypeId} {y : Operand} (hh : cpLoad Pr rd t y = some h) (hr : Reads μ a L T rd) (hR : Rel μ H w base) (ho : o.op = .load t y) : Snd Pr o a w base μ (h call L T H) := by
  obtain ⟨d, hd, hh⟩ := Option.bind_eq_some_iff.1 hh
  obtain ⟨i, hi, hh⟩ := Option.bind_eq_some_iff.1 hh
  obtain ⟨x, hx, rfl⟩ := cp1_some hh
  exact snd_load (hr _ _ hx) hR ho hd hi rfl
theorem cpBin_snd {op : BinOp} {t t' : TypeId} {y z : Operand} (hh : cpBin Pr rd op t y z = some h) (hr : Reads μ a L T rd) (hR : Rel μ H w base) (ho : o.op = .binOp op t y z t') : Snd Pr o a w base μ (h call L T H) := by
  unfold cpBin at hh
  split at hh
  · split at hh
    · obtain ⟨x, u, hx, hu, rfl⟩ := cp2_some hh
      exact snd_shr (hr _ _ hx) (hr _ _ hu) hR ho
    · obtain ⟨x, u, hx, hu, rfl⟩ := cp2_some hh
      exact snd_and (hr _ _ hx) (hr _ _ hu) hR ho
    · obtain ⟨x, u, hx, hu, rfl⟩ := cp2_some hh
      exact snd_rem (hr _ _ hx) (hr _ _ hu) hR ho
    · obtain ⟨x, u, hx, hu, rfl⟩ := cp2_some hh
      exact snd_bin (hr _ _ hx) (hr _ _ hu) hR ho
  · obtain ⟨x, u, hx, hu, rfl⟩ := cp2_some hh
    exact snd_bin (hr _ _ hx) (hr _ _ hu) hR ho
  · rename_i ht
    split at hh
    · obtain ⟨x, u, hx, hu, rfl⟩ := cp2_some hh
      exact snd_eqNilP (neg := false) rfl (hr _ _ hx) (hr _ _ hu) hR ho ht
    · obtain ⟨x, u, hx, hu, rfl⟩ := cp2_some hh
      exact snd_eqNilP (neg := true) rfl (hr _ _ hx) (hr _ _ hu) hR ho ht
    · cases hh
  · rename_i ht
    split at hh
    · obtain ⟨x, u, hx, hu, rfl⟩ := cp2_some hh
      exact snd_eqNilS (neg := false) rfl (hr _ _ hx) (hr _ _ hu) hR ho ht
    · obtain ⟨x, u, hx, hu, rfl⟩ := cp2_some hh
      exact snd_eqNilS (neg := true) rfl (hr _ _ hx) (hr _ _ hu) hR ho ht
    · cases hh
  · rename_i ht
    split at hh
    · obtain ⟨x, u, hx, hu, rfl⟩ := cp2_some hh
      exact snd_eqB (neg := false) rfl (hr _ _ hx) (hr _ _ hu) hR ho ht
    · obtain ⟨x, u, hx, hu, rfl⟩ := cp2_some hh
      exact snd_eqB (neg := true) rfl (hr _ _ hx) (hr _ _ hu) hR ho ht
    · cases hh
  · cases hh
theorem cpConv_snd {s d : TypeId} {y : Operand} (hh : cpConv Pr rd s d y = some h) (hr : Reads μ a L T rd) (hR : Rel μ H w base) (ho : o.op = .convert s d y) : Snd Pr o a w base μ (h call L T H) := by
  unfold cpConv at hh
  split at hh
  · rename_i hs hd
    obtain ⟨x, hx, rfl⟩ := cp1_some hh
    exact snd_conv8 (hr _ _ hx) hR ho hs hd
  · rename_i hs hd
    obtain ⟨x, hx, rfl⟩ := cp1_some hh
    exact snd_conv (hr _ _ hx) hR ho hs hd
  · rename_i e hs hd
    split at hh
    · rename_i he
      obtain ⟨x, hx, rfl⟩ := cp1_some hh
      exact snd_ofBytes (hr _ _ hx) hR ho hs he hd
    · cases hh
  · cases hh
theorem cpMkslice_snd {t : TypeId} {y z : Operand} (hh : cpMkslice Pr rd t y z = some h) (hr : Reads μ a L T rd) (hR : Rel μ H w base) (ho : o.op = .makeSlice t y z) : Snd Pr o a w base μ (h call L T H) := by
  unfold cpMkslice at hh
  split at hh
  · rename_i e ht
    obtain ⟨⟨i, zl⟩, hz, hh⟩ := Option.bind_eq_some_iff.1 hh
    obtain ⟨zv, z1, z2, z3, z4⟩ := zeroL_some hz
    dsimp only at hh
    cases hb : sameOpd y z with
    | false => rw [hb] at hh; cases hh
    | true =>
      rw [hb, cond_true] at hh
      cases hb2 : Nat.ble i.bytes 1048576 with
      | false => rw [hb2] at hh; cases hh
      | true =>
        rw [hb2, cond_true] at hh
        obtain ⟨x, hx, rfl⟩ := cp1_some hh
        have := sameOpd_eq hb
        subst this
        exact snd_mkslice (hr _ _ hx) hR ho ht z1 z2 rfl z3 z4 (Nat.le_of_ble_eq_true hb2)
  · cases hh
theorem cpSlice_snd {t : TypeId} {y : Operand} {lo hi : Option Operand} (hh : cpSlice Pr rd t y lo hi = some h) (hr : Reads μ a L T rd) (hR : Rel μ H w base) (ho : o.op = .slice t y lo hi none) : Snd Pr o a w base μ (h call L T H) := by
  obtain ⟨x, hx, hh⟩ := Option.bind_eq_some_iff.1 hh
  obtain ⟨l, hl, hh⟩ := Option.bind_eq_some_iff.1 hh
  obtain ⟨u, hu, hh⟩ := Option.bind_eq_some_iff.1 hh
  split at hh
  · rename_i ht
    cases hh
    exact snd_substr (hr _ _ hx) (rdO_ok hl hr) (rdO_ok hu hr) hR ho ht
  · rename_i ht
    obtain ⟨i, hi, hh⟩ := Option.bind_eq_some_iff.1 hh
    cases hh
    exact snd_subsl (hr _ _ hx) (rdO_ok hl hr) (rdO_ok hu hr) hR ho ht hi _ rfl
  · cases hh
theorem cpFaddr_snd {t : TypeId} {y : Operand} {f : Nat} (hh : cpFaddr Pr rd t y f = some h) (hr : Reads μ a L T rd) (hR : Rel μ H w base) (ho : o.op = .fieldAddr t y f) : Snd Pr o a w base μ (h call L T H) := by
  unfold cpFaddr at hh
  split at hh
  · rename_i fs ht
    obtain ⟨fd, hf, hh⟩ := Option.bind_eq_some_iff.1 hh
    obtain ⟨i, hi, hh⟩ := Option.bind_eq_some_iff.1 hh
    cases hb : Nat.beq i.size 0 with
    | true => rw [hb] at hh; cases hh
    | false =>
      rw [hb, cond_false] at hh
      obtain ⟨x, hx, rfl⟩ := cp1_some hh
      exact snd_faddr (hr _ _ hx) hR ho ht hf hi (Nat.ne_of_beq_eq_false hb) rfl rfl
  · cases hh
theorem cpField_snd {t : TypeId} {y : Operand} {f : Nat} (hh : cpField Pr rd t y f = some h) (hr : Reads μ a L T rd) (hR : Rel μ H w base) (ho : o.op = .field t y f) : Snd Pr o a w base μ (h call L T H) := by
  unfold cpField at hh
  split at hh
  · rename_i fs ht
    obtain ⟨fd, hf, hh⟩ := Option.bind_eq_some_iff.1 hh
    obtain ⟨d, hd, hh⟩ := Option.bind_eq_some_iff.1 hh
    cases hb : aggB Pr fd.type with
    | true =>
      rw [hb, cond_true] at hh
      obtain ⟨i, hi, hh⟩ := Option.bind_eq_some_iff.1 hh
      obtain ⟨x, hx, rfl⟩ := cp1_some hh
      exact snd_fieldN (hr _ _ hx) hR ho ht hf hd hb rfl hi rfl
    | false =>
      rw [hb, cond_false] at hh
      obtain ⟨x, hx, rfl⟩ := cp1_some hh
      exact snd_field1 (hr _ _ hx) hR ho ht hf hd hb rfl
  · cases hh
theorem cpIaddr_snd {t : TypeId} {y z : Operand} (hh : cpIaddr Pr rd t y z = some h) (hr : Reads μ a L T rd) (hR : Rel μ H w base) (ho : o.op = .indexAddr t y z) : Snd Pr o a w base μ (h call L T H) := by
  unfold cpIaddr at hh
  split at hh
  · rename_i e ht
    obtain ⟨i, hi, hh⟩ := Option.bind_eq_some_iff.1 hh
    obtain ⟨x, u, hx, hu, rfl⟩ := cp2_some hh
    exact snd_iaddr (hr _ _ hx) (hr _ _ hu) hR ho ht hi rfl
  · cases hh
theorem cpIndex_snd {t : TypeId} {y z : Operand} (hh : cpIndex Pr rd t y z = some h) (hr : Reads μ a L T rd) (hR : Rel μ H w base) (ho : o.op = .index t y z) : Snd Pr o a w base μ (h call L T H) := by
  unfold cpIndex at hh
  split at hh
  · rename_i ht
    obtain ⟨x, u, hx, hu, rfl⟩ := cp2_some hh
    exact snd_sidx (hr _ _ hx) (hr _ _ hu) hR ho ht
  · cases hh
theorem arr_eq {α : Type} {xs : Array α} {l : List α} (h : xs.toList = l) : xs = l.toArray := by cases xs; simpa using h
theorem cpCall_snd {c : Call} (hcall : CallOk Pr call) (hh : cpCall Pr rd c = some h) (hr : Reads μ a L T rd) (hR : Rel μ H w base) (ho : o.op = .call c) : Snd Pr o a w base μ (h call L T H) := by
  obtain ⟨callee, args, argTypes⟩ := c
  unfold cpCall at hh
  dsimp only at hh
  split at hh
  · obtain ⟨p, hp, hh⟩ := Option.bind_eq_some_iff.1 hh
    obtain ⟨xs, hxs, hh⟩ := Option.bind_eq_some_iff.1 hh
    cases hh
    have := P.ofF_nat _ _ _ hp
    subst this
    exact snd_call hcall (by have := hands_rdsL hxs hr; rwa [← Array.toList_map] at this) hR ho
  · obtain ⟨x, hx, hh⟩ := Option.bind_eq_some_iff.1 hh
    obtain ⟨xs, hxs, hh⟩ := Option.bind_eq_some_iff.1 hh
    cases hh
    exact snd_callv hcall (hr _ _ hx) (by have := hands_rdsL hxs hr; rwa [← Array.toList_map] at this) hR ho
  · unfold cpLen at hh
    split at hh
    · rename_i y t e1 e2
      have e1 := arr_eq e1; have e2 := arr_eq e2
      subst e1; subst e2
      split at hh
      · rename_i ht
        obtain ⟨x, hx, rfl⟩ := cp1_some hh
        exact snd_strlen (hr _ _ hx) hR ho ht
      · rename_i ht
        obtain ⟨x, hx, rfl⟩ := cp1_some hh
        exact snd_sllen (hr _ _ hx) hR ho ht
      · cases hh
    · cases hh
  · unfold cpAppend at hh
    split at hh
    · rename_i y z t t' e1 e2
      have e1 := arr_eq e1; have e2 := arr_eq e2
      subst e1; subst e2
      cases hb : Nat.beq t t' with
      | false => rw [hb] at hh; cases hh
      | true =>
        rw [hb, cond_true] at hh
        have := Nat.eq_of_beq_eq_true hb
        subst this
        split at hh
        · rename_i e ht
          obtain ⟨⟨i, zl⟩, hz, hh⟩ := Option.bind_eq_some_iff.1 hh
          obtain ⟨zv, z1, z2, z3, z4⟩ := zeroL_some hz
          dsimp only at hh
          cases hb2 : Nat.ble i.bytes 1048576 with
          | false => rw [hb2] at hh; cases hh
          | true =>
            rw [hb2, cond_true] at hh
            obtain ⟨x, u, hx, hu, rfl⟩ := cp2_some hh
            exact snd_append (hr _ _ hx) (hr _ _ hu) hR ho ht z1 z2 rfl (by rw [← z4, (z3.1 μ).length]; simp) (Nat.le_of_ble_eq_true hb2)
        · cases hh
    · cases hh
  · unfold cpMin at hh
    split at hh
    · rename_i y ys e1
      have e1 := arr_eq e1
      subst e1
      obtain ⟨x, hx, hh⟩ := Option.bind_eq_some_iff.1 hh
      obtain ⟨xs, hxs, hh⟩ := Option.bind_eq_some_iff.1 hh
      cases hh
      exact snd_min (hr _ _ hx) (hands_rdsL hxs hr) hR ho
    · cases hh
  · unfold cpMin at hh
    split at hh
    · rename_i y ys e1
      have e1 := arr_eq e1
      subst e1
      obtain ⟨x, hx, hh⟩ := Option.bind_eq_some_iff.1 hh
      obtain ⟨xs, hxs, hh⟩ := Option.bind_eq_some_iff.1 hh
      cases hh
      exact snd_max (hr _ _ hx) (hands_rdsL hxs hr) hR ho
    · cases hh
  · cases hh
theorem compOp_snd (hcall : CallOk Pr call) (hh : compOp Pr rd o.op = some h) (hr : Reads μ a L T rd) (hR : Rel μ H w base) : Snd Pr o a w base μ (h call L T H) := by
  generalize ho : o.op = op at hh
  unfold compOp at hh
  split at hh
  · obtain ⟨x, hx, rfl⟩ := cp1_some hh; exact snd_mv (hr _ _ hx) hR (.inl ho)
  · obtain ⟨x, hx, rfl⟩ := cp1_some hh; exact snd_mv (hr _ _ hx) hR (.inr ho)
  · obtain ⟨c, hc, hh⟩ := Option.bind_eq_some_iff.1 hh
    obtain ⟨x, u, hx, hu, rfl⟩ := cp2_some hh
    exact snd_pick (hr _ _ hc) (hr _ _ hx) (hr _ _ hu) hR ho
  · obtain ⟨⟨i, z⟩, hz, hh⟩ := Option.bind_eq_some_iff.1 hh
    obtain ⟨zv, z1, z2, z3, z4⟩ := zeroL_some hz
    cases hh
    exact snd_alloc hR ho z1 z2 z3 z4
  · obtain ⟨i, hi, hh⟩ := Option.bind_eq_some_iff.1 hh
    obtain ⟨x, hx, rfl⟩ := cp1_some hh
    exact snd_box (hr _ _ hx) hR ho
  · exact cpBuild_snd hh hr hR ho
  · exact cpBslice_snd hh hr hR ho
  · exact cpLoad_snd hh hr hR ho
  · obtain ⟨i, hi, hh⟩ := Option.bind_eq_some_iff.1 hh
    obtain ⟨x, u, hx, hu, rfl⟩ := cp2_some hh
    exact snd_store (hr _ _ hx) (hr _ _ hu) hR ho hi rfl
  · obtain ⟨x, hx, rfl⟩ := cp1_some hh; exact snd_nilc (hr _ _ hx) hR ho
  · exact cpBin_snd hh hr hR ho
  · obtain ⟨x, hx, rfl⟩ := cp1_some hh; exact snd_not (hr _ _ hx) hR ho
  · obtain ⟨x, hx, rfl⟩ := cp1_some hh; exact snd_neg (hr _ _ hx) hR ho
  · exact cpConv_snd hh hr hR ho
  · obtain ⟨p, hp, hh⟩ := Option.bind_eq_some_iff.1 hh
    obtain ⟨xs, hxs, hh⟩ := Option.bind_eq_some_iff.1 hh
    obtain ⟨us, hus, hh⟩ := Option.bind_eq_some_iff.1 hh
    cases hh
    have := P.ofF_nat _ _ _ hp
    subst this
    exact snd_mkfn (by have := hands_rdsL hxs hr; rwa [← Array.toList_map] at this) (by have := hands_rdsL hus hr; rwa [← Array.toList_map] at this) hR ho
  · exact cpMkslice_snd hh hr hR ho
  · exact cpSlice_snd hh hr hR ho
  · exact cpFaddr_snd hh hr hR ho
  · exact cpField_snd hh hr hR ho
  · exact cpIaddr_snd hh hr hR ho
  · exact cpIndex_snd hh hr hR ho
  · obtain ⟨x, hx, rfl⟩ := cp1_some hh; exact snd_ext (hr _ _ hx) hR ho
  · exact cpCall_snd hcall hh hr hR ho
  · cases hh
end
end
end Go.Ev
/- Regions without a draw, and code. -/
namespace Go.Ev
noncomputable section
variable {Pr : Program}

/-- deferred calls -/
def DRel (μ : M) : List Dfr → List Deferred → Prop
  | [], [] => True
  | d :: ds, e :: es => (∃ xs cap, e.target = .fn (.func d.f.nat) cap ∧ (e.args ++ cap).toList = xs ∧ VRels μ d.args xs) ∧ DRel μ ds es
  | _, _ => False
theorem DRel.mono {μ μ' : M} (hx : Ext μ μ') : ∀ {D : List Dfr} {ds : List Deferred}, DRel μ D ds → DRel μ' D ds
  | [], [], _ => trivial
  | _ :: _, _ :: _, ⟨⟨xs, cap, h1, h2, h3⟩, h⟩ => ⟨⟨xs, cap, h1, h2, h3.mono hx⟩, h.mono hx⟩
  | [], _ :: _, h => h.elim
  | _ :: _, [], h => h.elim
structure ARel (μ : M) (slot : Tmp → Option Sl) (N : Nat) (T : Fm) (D : List Dfr) (a : Act) : Prop where
  size : a.tmps.size = N
  defers : DRel μ D a.defers
  val : ∀ t p v, slot t = some p → T.at p = some v → VRel μ v (a.eval (.tmp t))
def SlotInj (slot : Tmp → Option Sl) : Prop := ∀ t t' p, slot t = some p → slot t' = some p → t = t'
def LRel (μ : M) (last : List (Option Tmp)) (L : List AV) (a : Act) : Prop := ∀ t n u, ixOf t last 0 = some n → L[n]? = some u → VRel μ u (a.eval (.tmp t))
/-- a destination that the frame has -/
def dstOk (N : Nat) : Option Tmp → Bool
  | none => true
  | some d => Nat.blt d N

theorem eval_put {a : Act} {d : Tmp} {x : Value} (h : d < a.tmps.size) (t : Tmp) : (a.put (some d) x).eval (.tmp t) = if t = d then x else a.eval (.tmp t) := by
  unfold Act.put Act.eval
  by_cases ht : t = d
  · subst ht
    simp [h]
  · rw [if_neg ht]
    simp [Array.getElem?_setIfInBounds_ne (Ne.symm ht)]
theorem ixOf_succ (t : Tmp) : ∀ (ds : List (Option Tmp)) (n : Nat), ixOf t ds (n + 1) = (ixOf t ds n).map (· + 1)
  | [], _ => rfl
  | d :: ds, n => by
    unfold ixOf
    cases d == some t
    · simp only [cond_false]; exact ixOf_succ t ds (n + 1)
    · rfl
theorem ARel.mono {μ μ' : M} {slot : Tmp → Option Sl} {N : Nat} {T : Fm} {D : List Dfr} {a : Act} (h : ARel μ slot N T D a) (hx : Ext μ μ') : ARel μ' slot N T D a := ⟨h.size, h.defers.mono hx, fun t p v h1 h2 => (h.val t p v h1 h2).mono hx⟩
theorem LRel.mono {μ μ' : M} {last : List (Option Tmp)} {L : List AV} {a : Act} (h : LRel μ last L a) (hx : Ext μ μ') : LRel μ' last L a := fun t n u h1 h2 => (h t n u h1 h2).mono hx
theorem ARel.size_put {a : Act} {d : Option Tmp} {x : Value} : (a.put d x).tmps.size = a.tmps.size := by cases d <;> simp [Act.put]
theorem ARel.defers_put {a : Act} {d : Option Tmp} {x : Value} : (a.put d x).defers = a.defers := by cases d <;> simp [Act.put]
theorem ARel.put {μ : M} {slot : Tmp → Option Sl} {N : Nat} {T : Fm} {D : List Dfr} {a : Act} (h : ARel μ slot N T D a) {d : Option Tmp} {x : Value} (hok : dstOk N d = true) (hd : d.bind slot = none) : ARel μ slot N T D (a.put d x) := by
  refine ⟨ARel.size_put.trans h.size, by rw [ARel.defers_put]; exact h.defers, fun t p v h1 h2 => ?_⟩
  cases d with
  | none => exact h.val t p v h1 h2
  | some d =>
    have hlt : d < a.tmps.size := by rw [h.size]; exact natB hok
    rw [eval_put hlt, if_neg]
    · exact h.val t p v h1 h2
    · rintro rfl
      rw [Option.bind_some] at hd
      rw [hd] at h1; cases h1
theorem ARel.putS {μ : M} {slot : Tmp → Option Sl} (hinj : SlotInj slot) {N : Nat} {T : Fm} {D : List Dfr} {a : Act} (h : ARel μ slot N T D a) {d : Option Tmp} {x : Value} (hok : dstOk N d = true) {p : Sl} (hd : d.bind slot = some p) {v : AV} (hv : VRel μ v x) :
    ARel μ slot N (T.put v p) D (a.put d x) := by
  refine ⟨ARel.size_put.trans h.size, by rw [ARel.defers_put]; exact h.defers, fun t q u h1 h2 => ?_⟩
  cases d with
  | none => cases hd
  | some d =>
    rw [Option.bind_some] at hd
    have hlt : d < a.tmps.size := by rw [h.size]; exact natB hok
    rw [eval_put hlt]
    rw [Fm.at_put] at h2
    by_cases ht : t = d
    · subst ht
      rw [hd] at h1
      cases h1
      rw [if_pos rfl] at h2 ⊢
      cases h2
      exact hv
    · rw [if_neg ht]
      rw [if_neg] at h2
      · exact h.val t q u h1 h2
      · rintro rfl
        exact ht (hinj _ _ _ h1 hd)
theorem LRel.put {μ : M} {last : List (Option Tmp)} {L : List AV} {N : Nat} {a : Act} (h : LRel μ last L a) (hs : a.tmps.size = N) {d : Option Tmp} {x : Value} (hok : dstOk N d = true) {v : AV} (hv : VRel μ v x) : LRel μ (d :: last) (v :: L) (a.put d x) := by
  intro t n u hn hu
  unfold ixOf at hn
  cases d with
  | none =>
    have : ((none : Option Tmp) == some t) = false := rfl
    rw [this, cond_false, ixOf_succ] at hn
    obtain ⟨m, hm, rfl⟩ := Option.map_eq_some_iff.1 hn
    exact h t m u hm (by simpa using hu)
  | some d =>
    have hlt : d < a.tmps.size := by rw [hs]; exact natB hok
    rw [eval_put hlt]
    by_cases ht : t = d
    · subst ht
      have : (some t == some t) = true := by simp
      rw [this, cond_true] at hn
      cases hn
      simp at hu
      subst hu
      rw [if_pos rfl]; exact hv
    · have : (some d == some t) = false := by simp; exact fun hh => ht hh.symm
      rw [this, cond_false, ixOf_succ] at hn
      obtain ⟨m, hm, rfl⟩ := Option.map_eq_some_iff.1 hn
      rw [if_neg ht]
      exact h t m u hm (by simpa using hu)

/-! ### what is known behind a piece of code -/
def Aft (base N : Nat) (slot : Tmp → Option Sl) (μ : M) (w : World) (T : Fm) (D : List Dfr) (H : AH) (R : Act → World → Prop) : Prop :=
  ∀ μ' a' w', Ext μ μ' → ARel μ' slot N T D a' → Rel μ' H w' base → Fr base w w' → R a' w'
def OutPost (base N : Nat) (slot : Tmp → Option Sl) (μ : M) (w : World) (Q : Exit → Act → World → Prop) : Out → Prop
  | .nrm T D H => Aft base N slot μ w T D H (Q .normal)
  | .ext i T D H => Aft base N slot μ w T D H (Q (.exit i))
  | .ret T D H => Aft base N slot μ w T D H (Q .ret)
  | .fail _ => False
theorem Aft.later {base N : Nat} {slot : Tmp → Option Sl} {μ μ' : M} {w w' : World} {T : Fm} {D : List Dfr} {H : AH} {R : Act → World → Prop} (h : Aft base N slot μ w T D H R) (hx : Ext μ μ') (hf : Fr base w w') : Aft base N slot μ' w' T D H R :=
  fun μ2 a2 w2 h1 h2 h3 h4 => h μ2 a2 w2 (hx.trans h1) h2 h3 (hf.trans h4)
theorem OutPost.later {base N : Nat} {slot : Tmp → Option Sl} {μ μ' : M} {w w' : World} {Q : Exit → Act → World → Prop} {o : Out} (h : OutPost base N slot μ w Q o) (hx : Ext μ μ') (hf : Fr base w w') : OutPost base N slot μ' w' Q o := by
  cases o with
  | nrm T D H => exact Aft.later h hx hf
  | ext i T D H => exact Aft.later h hx hf
  | ret T D H => exact Aft.later h hx hf
  | fail n => exact h
theorem OutPost.bad {base N : Nat} {slot : Tmp → Option Sl} {μ : M} {w : World} {Q : Exit → Act → World → Prop} {o : Out} (h : OutPost base N slot μ w Q o) : ¬ Bad o := by
  rintro ⟨n, rfl⟩
  exact h

/-! ### rows -/
def guardX (ops : Array Oper) (last : List (Option Tmp)) (g : Nat) : Option XT := ((ops[g]?).bind (·.dst)).bind fun t => (ixOf t last 0).bind fun n => some (xlN n)
def rowOf (slot : Tmp → Option Sl) (ops : Array Oper) (last : List (Option Tmp)) (o : Oper) (h : HT) : Option (RT → RT) :=
  match o.guard, o.dst.bind slot with
  | none, none => some (oP h)
  | none, some p => some (oD p h)
  | some (g, w), none => (guardX ops last g).bind fun x => some (oGP x w h)
  | some (g, w), some p => (guardX ops last g).bind fun x => some (oGD x w p h)
def compDf (rd : Operand → Option XT) (o : Oper) : Option (RT → RT) :=
  match o.op, o.guard, o.dst with
  | .defer c, none, none => match c.callee with
    | .value y => (rd y).bind fun x => (rdsL rd c.args.toList).bind fun xs => some (oDf x xs)
    | _ => none
  | _, _, _ => none
def compRows (Pr : Program) (N : Nat) (slot : Tmp → Option Sl) (ops : Array Oper) : List Oper → List (Option Tmp) → Option RT
  | [], _ => some oE
  | o :: os, last => match compDf (rdOp last slot) o with
    | some row => (compRows Pr N slot ops os (o.dst :: last)).bind fun k => some (row k)
    | none => bif dstOk N o.dst then (compOp Pr (rdOp last slot) o.op).bind fun h => (rowOf slot ops last o h).bind fun row => (compRows Pr N slot ops os (o.dst :: last)).bind fun k => some (row k) else none

theorem guard_reads {μ : M} {ops : Array Oper} {last : List (Option Tmp)} {g : Nat} {x : XT} (hx : guardX ops last g = some x) {L : List AV} {a : Act} (hl : LRel μ last L a) (T : Fm) : ∃ t, (ops[g]?).bind (·.dst) = some t ∧ Rd μ (x L T) (a.eval (.tmp t)) := by
  obtain ⟨t, ht, hx⟩ := Option.bind_eq_some_iff.1 hx
  obtain ⟨n, hn, hx⟩ := Option.bind_eq_some_iff.1 hx
  cases hx
  exact ⟨t, ht, rd_xl fun u hu => hl t n u hn hu⟩
theorem yielded_bool {ops : Array Oper} {g : Nat} {t : Tmp} (ht : (ops[g]?).bind (·.dst) = some t) {a : Act} {x : Bool} (h : a.eval (.tmp t) = .bool x) : yielded ops a.tmps g = some x := by
  unfold yielded
  rw [ht, Option.bind_some]
  simp only [Act.eval] at h
  rw [Array.getD_eq_getD_getElem?] at h
  cases hv : a.tmps[t]? with
  | none => rw [hv] at h; cases h
  | some v => rw [hv] at h; simp at h; subst h; rfl
theorem yielded_undef {ops : Array Oper} {g : Nat} {t : Tmp} (ht : (ops[g]?).bind (·.dst) = some t) {a : Act} (h : a.eval (.tmp t) = .tuple #[]) : yielded ops a.tmps g = none := by
  unfold yielded
  rw [ht, Option.bind_some]
  simp only [Act.eval] at h
  rw [Array.getD_eq_getD_getElem?] at h
  cases hv : a.tmps[t]? with
  | none => rfl
  | some v => rw [hv] at h; simp at h; subst h; rfl
/-- what an operation with its guard comes to -/
def DoesW (Pr : Program) (ops : Array Oper) (o : Oper) (a : Act) (w : World) (R : Value → World → Prop) : Prop :=
  ∀ (next : Act → World → Prop) (Q : Exit → Act → World → Prop), (∀ v w', R v w' → next (a.put o.dst v) w') →
    if Region.wanted o (yielded ops a.tmps) then o.wp Pr a w next Q else next (a.put o.dst undef) w
theorem Does.w {ops : Array Oper} {o : Oper} {a : Act} {w : World} {R : Value → World → Prop} (h : Does Pr o a w R) (hw : Region.wanted o (yielded ops a.tmps) = true) : DoesW Pr ops o a w R := by
  intro next Q hn
  rw [if_pos hw]
  exact h next Q hn
/-- an operation under a guard -/
abbrev hG (x : XT) (w : Bool) (h : HT) : HT := fun call L T H k => x L T fun v => grd v w (k .undef H) (h call L T H k)
theorem snd_guard2 {ops : Array Oper} {o : Oper} {g : Nat} {want : Bool} {x : XT} {t : Tmp} (ht : (ops[g]?).bind (·.dst) = some t) (hg : o.guard = some (g, want)) {μ : M} {L : List AV} {a : Act} {T : Fm} (hrd : Rd μ (x L T) (a.eval (.tmp t))) {H : AH} {w : World} {base : Nat} (hR : Rel μ H w base)
    {call : FT} {h : HT} (hs : Snd Pr o a w base μ (h call L T H)) : Det (hG x want h call L T H) fun v H' => DoesW Pr ops o a w (Post base μ w v H') := by
  unfold hG
  refine Hands.det (g := fun v k => grd v want (k .undef H) (h call L T H k)) hrd fun v hv => ?_
  have skip : Region.wanted o (yielded ops a.tmps) = false → DoesW Pr ops o a w (Post base μ w .undef H) := fun hw next Q hn => by
    rw [if_neg (by rw [hw]; simp)]
    exact hn _ _ ⟨μ, Ext.refl μ, hR, Fr.refl base w, .undef⟩
  generalize hc : a.eval (.tmp t) = cv at hv
  have hfail : ∀ (z : Nat), Det (fun _ => Out.fail z) fun v H' => DoesW Pr ops o a w (Post base μ w v H') := fun z => Det.fail z
  cases hv with
  | undef => exact Det.pure (skip (by simp [Region.wanted, hg, yielded_undef ht hc]))
  | bool b =>
    have hy := yielded_bool (ops := ops) ht hc
    by_cases hb : b = want
    · subst hb
      have : ∀ k : KV, grd (.bool b) b (k .undef H) (h call L T H k) = h call L T H k := fun k => by cases b <;> rfl
      simp only [this]
      exact hs.mono fun v H' hd => hd.w (by simp [Region.wanted, hg, hy])
    · have : ∀ k : KV, grd (.bool b) want (k .undef H) (h call L T H k) = k .undef H := fun k => by cases b <;> cases want <;> first | rfl | exact absurd rfl hb
      simp only [this]
      exact Det.pure (skip (by simp [Region.wanted, hg, hy, hb]))
  | _ => exact hfail 110

theorem snd_guard {ops : Array Oper} {o : Oper} {g : Nat} {want : Bool} {last : List (Option Tmp)} {x : XT} (hx : guardX ops last g = some x) (hg : o.guard = some (g, want)) {μ : M} {L : List AV} {a : Act} (hl : LRel μ last L a) {T : Fm} {H : AH} {w : World} {base : Nat} (hR : Rel μ H w base)
    {call : FT} {h : HT} (hs : Snd Pr o a w base μ (h call L T H)) : Det (hG x want h call L T H) fun v H' => DoesW Pr ops o a w (Post base μ w v H') := by
  obtain ⟨t, ht, hrd⟩ := guard_reads hx hl T
  exact snd_guard2 ht hg hrd hR hs

theorem rows_wp {call : FT} (hcall : CallOk Pr call) {slot : Tmp → Option Sl} (hinj : SlotInj slot) {N base : Nat} {ops : Array Oper} {Q : Exit → Act → World → Prop} : ∀ (os : List Oper) (idxs : List Nat) (last : List (Option Tmp)) (r : RT) (L : List AV) (T : Fm) (D : List Dfr) (H : AH) (a : Act) (w : World) (μ : M),
    compRows Pr N slot ops os last = some r → idxs.map (ops[·]?) = os.map some → LRel μ last L a → ARel μ slot N T D a → Rel μ H w base → OutPost base N slot μ w Q (r call L T D H) → wpOps Pr ops Q idxs a w
  | [], idxs, last, r, L, T, D, H, a, w, μ, hr, hi, hl, ha, hR, ho => by
    cases hr
    have : idxs = [] := by cases idxs with | nil => rfl | cons i is => simp at hi
    subst this
    exact ho μ a w (Ext.refl μ) ha hR (Fr.refl base w)
  | o :: os, idxs, last, r, L, T, D, H, a, w, μ, hr, hi, hl, ha, hR, ho => by
    cases idxs with
    | nil => simp at hi
    | cons i is =>
    simp only [List.map_cons, List.cons.injEq] at hi
    obtain ⟨hi1, hi2⟩ := hi
    unfold compRows at hr
    have hrd : Reads μ a L T (rdOp last slot) := reads_of (fun t n u h1 h2 => hl t n u h1 h2) fun t p u _ h2 h3 => ha.val t p u h2 h3
    split at hr
    · -- a call is deferred
      rename_i row hrow
      obtain ⟨k, hk, hr⟩ := Option.bind_eq_some_iff.1 hr
      cases hr
      unfold compDf at hrow
      split at hrow
      case h_2 => cases hrow
      rename_i c hop hg hd
      split at hrow
      case h_2 => cases hrow
      rename_i y hc
      obtain ⟨x, hx, hrow⟩ := Option.bind_eq_some_iff.1 hrow
      obtain ⟨xs, hxs, hrow⟩ := Option.bind_eq_some_iff.1 hrow
      cases hrow
      have ho : OutPost base N slot μ w Q (x L T fun v => rds L T xs fun vs => fDf v vs D fun D => k call (.undef :: L) T D H) := ho
      rcases hrd y x hx with ⟨v, hv, e1⟩ | hbad
      case inr => exact absurd (hbad _) ho.bad
      rw [e1] at ho
      rcases hands_rdsL hxs hrd with ⟨vs, hvs, e2⟩ | hbad
      case inr => exact absurd (hbad _) ho.bad
      have e2 : ∀ k : List AV → Out, rds L T xs k = k vs := e2
      rw [e2] at ho
      generalize hce : a.eval y = cv at hv
      cases hv
      case fn f av cc xv yv hxv hyv =>
        have ho : OutPost base N slot μ w Q (k call (.undef :: L) T (Dfr.mk f (lapp av (lapp vs cc)) :: D) H) := ho
        rw [lapp_eq, lapp_eq] at ho
        simp only [wpOps, hi1]
        rw [if_pos (by simp [Region.wanted, hg])]
        refine .inl ?_
        have hrun : (execOp a.eval o).run Pr w = .ok (.defer { target := .fn (.func f.nat) yv.toArray, args := xv.toArray ++ c.args.map a.eval }) w := by
          obtain ⟨callee, cargs, cts⟩ := c
          have hc : callee = .value y := hc
          subst hc
          simp [execOp, hop, resolve, hce, Deferred.ofValue]
        unfold Oper.wp
        rw [hrun, Oper.upon_defer, hd]
        have hl' : LRel μ (none :: last) (.undef :: L) ({ a with defers := { target := .fn (.func f.nat) yv.toArray, args := xv.toArray ++ c.args.map a.eval } :: a.defers } : Act) := by
          intro t n u hn hu
          unfold ixOf at hn
          have e : ((none : Option Tmp) == some t) = false := rfl
          rw [e, cond_false, ixOf_succ] at hn
          obtain ⟨m, hm, rfl⟩ := Option.map_eq_some_iff.1 hn
          exact hl t m u hm (by simpa using hu)
        rw [hd] at hk
        refine rows_wp hcall hinj os is (none :: last) k (.undef :: L) T (Dfr.mk f (av ++ (vs ++ cc)) :: D) H _ w μ hk hi2 hl' ⟨ha.size, ⟨⟨_, yv.toArray, rfl, rfl, ?_⟩, ha.defers⟩, ha.val⟩ hR ho
        have := hxv.append (hvs.append hyv)
        simpa using this
      all_goals exact absurd (bad_fail _) ho.bad
    cases hok : dstOk N o.dst with
    | false => rw [hok] at hr; cases hr
    | true =>
    rw [hok, cond_true] at hr
    obtain ⟨h, hh, hr⟩ := Option.bind_eq_some_iff.1 hr
    obtain ⟨row, hrow, hr⟩ := Option.bind_eq_some_iff.1 hr
    obtain ⟨k, hk, hr⟩ := Option.bind_eq_some_iff.1 hr
    cases hr
    have hs := compOp_snd (call := call) (H := H) (w := w) (base := base) hcall hh hrd hR
    simp only [wpOps, hi1]
    -- the operation with its guard
    have fin : ∀ (hf : HT), Det (hf call L T H) (fun v H' => DoesW Pr ops o a w (Post base μ w v H')) →
        ((o.dst.bind slot = none ∧ OutPost base N slot μ w Q (hf call L T H (kP (k call) L T D))) ∨ ∃ p, o.dst.bind slot = some p ∧ OutPost base N slot μ w Q (hf call L T H (kD (k call) p L T D))) →
        if Region.wanted o (yielded ops a.tmps) = true then o.wp Pr a w (wpOps Pr ops Q is) Q ∨ (o.asks Pr a w ∧ LetsOut Q) else wpOps Pr ops Q is (a.put o.dst undef) w := by
      intro hf hdet hout
      have go : ∀ v H', DoesW Pr ops o a w (Post base μ w v H') → (∀ x w', Post base μ w v H' x w' → wpOps Pr ops Q is (a.put o.dst x) w') →
          if Region.wanted o (yielded ops a.tmps) = true then o.wp Pr a w (wpOps Pr ops Q is) Q ∨ (o.asks Pr a w ∧ LetsOut Q) else wpOps Pr ops Q is (a.put o.dst undef) w := by
        intro v H' hd hn
        have := hd (wpOps Pr ops Q is) Q hn
        split
        · rename_i hw; rw [if_pos hw] at this; exact .inl this
        · rename_i hw; rw [if_neg hw] at this; exact this
      rcases hdet with ⟨v, H', hd, hkk⟩ | hbad
      · refine go v H' hd fun x w' hp => ?_
        obtain ⟨μ', hx, hR', hF, hv⟩ := hp
        rcases hout with ⟨hnone, hout⟩ | ⟨p, hp, hout⟩
        · rw [hkk] at hout
          exact rows_wp hcall hinj os is (o.dst :: last) k (v :: L) T D H' (a.put o.dst x) w' μ' hk hi2 ((hl.mono hx).put ha.size hok hv) ((ha.mono hx).put hok hnone) hR' (hout.later hx hF)
        · rw [hkk] at hout
          unfold kD at hout
          rw [Fm.setP_eq] at hout
          exact rows_wp hcall hinj os is (o.dst :: last) k (v :: L) (T.put v p) D H' (a.put o.dst x) w' μ' hk hi2 ((hl.mono hx).put ha.size hok hv) ((ha.mono hx).putS hinj hok hp hv) hR' (hout.later hx hF)
      · rcases hout with ⟨_, hout⟩ | ⟨p, _, hout⟩
        · exact absurd (hbad _) hout.bad
        · exact absurd (hbad _) hout.bad
    have plain : o.guard = none → Det (h call L T H) (fun v H' => DoesW Pr ops o a w (Post base μ w v H')) := fun hg => hs.mono fun v H' hd => hd.w (by simp [Region.wanted, hg])
    unfold rowOf at hrow
    split at hrow
    · rename_i hg hsl
      cases hrow
      exact fin h (plain hg) (.inl ⟨hsl, ho⟩)
    · rename_i p hg hsl
      cases hrow
      exact fin h (plain hg) (.inr ⟨p, hsl, ho⟩)
    · rename_i g want hg hsl
      obtain ⟨x, hx, hrow⟩ := Option.bind_eq_some_iff.1 hrow
      cases hrow
      exact fin (hG x want h) (snd_guard hx hg hl hR hs) (.inl ⟨hsl, ho⟩)
    · rename_i g want p hg hsl
      obtain ⟨x, hx, hrow⟩ := Option.bind_eq_some_iff.1 hrow
      cases hrow
      exact fin (hG x want h) (snd_guard hx hg hl hR hs) (.inr ⟨p, hsl, ho⟩)
end
end Go.Ev
/- Kinds of operations: pure, reading, making memory, changing. -/
namespace Go.Ev
noncomputable section
variable {Pr : Program}

/-! ### pure: the memory is only handed on -/
def H0 : AH := ⟨⟨.d0, .d0, .d0, .d0⟩, Hp.e⟩
def PureB (f : AH → KV → Out) : Prop := ∀ H K, f H K = f H0 fun v _ => K v H
theorem PureB.ret (v : AV) : PureB fun H K => K v H := fun _ _ => rfl
theorem PureB.fail (n : Nat) : PureB fun _ _ => .fail n := fun _ _ => rfl
theorem PureB.bind {α : Type} {g : (α → Out) → Out} {f : α → AH → KV → Out} (h : ∀ v, PureB (f v)) : PureB fun H K => g fun v => f v H K := fun H K => congrArg g (funext fun v => h v H K)
theorem PureB.ite {b : Bool} {f g : AH → KV → Out} (hf : PureB f) (hg : PureB g) : PureB fun H K => iteO b (f H K) (g H K) := fun H K => by
  show iteO b (f H K) (g H K) = iteO b (f H0 _) (g H0 _)
  rw [hf H K, hg H K]
theorem PureB.kb (b : Bool) : PureB fun H K => kb b H K := .ret _
theorem PureB.fit (j : IntKind) (n : Int) : PureB fun H K => fit j n H K := by
  cases n with
  | ofNat m => exact .ite (.ret _) (.fail _)
  | negSucc m => exact .ite (.ret _) (.fail _)
theorem PureB.forceS (l b : Nat) : PureB fun H K => forceS l b H K := .bind (g := forceN l) fun l => .bind (g := forceN b) fun b => .ret _
theorem PureB.binI (o : BinOp) (j : IntKind) (a b : Int) : PureB fun H K => binI o j a b H K := by
  cases o
  case add => exact .fit _ _
  case sub => exact .fit _ _
  case mul => exact .fit _ _
  case quo => exact .bind (g := natI a) fun a => .bind (g := natI b) fun b => .ite (.fail _) (.fit _ _)
  case rem => exact .bind (g := natI a) fun a => .bind (g := natI b) fun b => .ite (.fail _) (.fit _ _)
  case and => exact .bind (g := natI a) fun a => .bind (g := natI b) fun b => .fit _ _
  all_goals first | exact .fail _ | exact .kb _
theorem PureB.binS (o : BinOp) (la a lb b : Nat) : PureB fun H K => binS o la a lb b H K := by
  cases o
  case add => exact .ite (.forceS _ _) (.fail _)
  all_goals first | exact .fail _ | exact .kb _
theorem PureB.isK {v : AV} {f : IntKind → Int → AH → KV → Out} {g : Nat → Nat → AH → KV → Out} (hf : ∀ j n, PureB (f j n)) (hg : ∀ l b, PureB (g l b)) : PureB fun H K => isK v (fun j n => f j n H K) (fun l b => g l b H K) := by
  cases v
  case int j n => exact hf j n
  case str l b => exact hg l b
  all_goals exact .fail _
theorem PureB.slK {v : AV} {f : AH → KV → Out} {g : P → Nat → Nat → Nat → Nat → AH → KV → Out} (hf : PureB f) (hg : ∀ a b c d e, PureB (g a b c d e)) : PureB fun H K => slK v (f H K) (fun a b c d e => g a b c d e H K) := by
  cases v
  case nils => exact hf
  case slice a b c d e => exact hg a b c d e
  all_goals exact .fail _
def PureH (h : HT) : Prop := ∀ call L T, PureB (h call L T) ∧ ∀ call', h call' L T = h call L T

/-- 0: pure; 1: reads; 2: makes memory; 3: changes; 4: another -/
def kindOf : Op → Nat
  | .move _ => 0 | .assign _ => 0 | .pick .. => 0 | .build .. => 0 | .nilCheck _ => 0 | .binOp .. => 0 | .unOp .. => 0 | .makeFunc .. => 0
  | .slice .. => 0 | .fieldAddr .. => 0 | .field .. => 0 | .indexAddr .. => 0 | .index .. => 0 | .extract .. => 0
  | .load .. => 1 | .convert .. => 1
  | .alloc _ => 2 | .box .. => 2 | .buildSlice .. => 2 | .makeSlice .. => 2
  | .store .. => 3
  | .call c => match c.callee with
    | .builtin .len => 0 | .builtin .min => 0 | .builtin .max => 0
    | _ => 3
  | _ => 4

theorem pure_mv (x : XT) : PureH (hMv x) := fun call L T => ⟨.bind (g := x L T) fun v => .ret _, fun _ => rfl⟩
theorem pure_pick (c x y : XT) : PureH (hPick c x y) := fun call L T => ⟨.bind (g := c L T) fun v => .bind (g := x L T) fun u => .bind (g := y L T) fun u' => .bind (g := boolK v) fun b => .ite (.ret _) (.ret _), fun _ => rfl⟩
theorem pure_build (z : List AV) (ps) : PureH (hBuild z ps) := fun call L T => ⟨.bind (g := fillP L T ps z) fun v => .ret _, fun _ => rfl⟩
theorem pure_nilc (x : XT) : PureH (hNilc x) := fun call L T => ⟨.bind (g := x L T) fun v => .bind (α := P × Nat × Nat × Nat × Nat) (g := fun k => ptrK v fun a b c d e => k (a, b, c, d, e)) (f := fun p H K => K (.ptr p.1 p.2.1 p.2.2.1 p.2.2.2.1 p.2.2.2.2) H) fun p => .ret _, fun _ => rfl⟩
theorem pure_bin (o : BinOp) (x y : XT) : PureH (hBin o x y) := fun call L T => ⟨.bind (g := x L T) fun v => .bind (g := y L T) fun w => .isK (fun j a => .bind (α := IntKind × Int) (g := fun k => intK w fun j n => k (j, n)) (f := fun p H K => iteO (Nat.beq (kno j) (kno p.1)) (binI o j a p.2 H K) (.fail 30)) fun p => .ite (.binI _ _ _ _) (.fail _))
    (fun l b => .bind (α := Nat × Nat) (g := fun k => strK w fun l b => k (l, b)) (f := fun p H K => binS o l b p.1 p.2 H K) fun p => .binS _ _ _ _ _), fun _ => rfl⟩
theorem pure_shr (x y : XT) : PureH (hShr x y) := fun call L T => ⟨.bind (g := x L T) fun v => .bind (g := y L T) fun w => .bind (α := IntKind × Int) (g := fun k => intK v fun j n => k (j, n)) (f := fun p H K => natI p.2 fun a => natK w fun b => iteO (Nat.ble (Nat.succ b) (bitsN p.1)) (fit p.1 (.ofNat (Nat.div a (Nat.pow 2 b))) H K) (.fail 27)) fun p =>
    .bind (g := natI p.2) fun a => .bind (g := natK w) fun b => .ite (.fit _ _) (.fail _), fun _ => rfl⟩
theorem PureB.maskK {v : AV} {f : IntKind → Nat → Nat → AH → KV → Out} {f2 : IntKind → Nat → Nat → Nat → AH → KV → Out} {g : IntKind → Int → AH → KV → Out} (hf : ∀ j n m, PureB (f j n m)) (hf2 : ∀ j n m l, PureB (f2 j n m l)) (hg : ∀ l b, PureB (g l b)) : PureB fun H K => maskK v (fun j n m => f j n m H K) (fun j n m l => f2 j n m l H K) (fun l b => g l b H K) := by
  cases v
  case int j n => exact hg j n
  case mask j m r => exact hf j m r
  case msk2 j m d r => exact hf2 j m d r
  all_goals exact .fail _
theorem PureB.mdK {v : AV} {f : IntKind → Nat → Nat → AH → KV → Out} {g : IntKind → Int → AH → KV → Out} (hf : ∀ j n m, PureB (f j n m)) (hg : ∀ l b, PureB (g l b)) : PureB fun H K => mdK v (fun j n m => f j n m H K) (fun l b => g l b H K) := by
  cases v
  case int j n => exact hg j n
  case md j m r => exact hf j m r
  all_goals exact .fail _
theorem pure_and (x y : XT) : PureH (hAnd x y) := fun call L T => ⟨.bind (g := x L T) fun v => .bind (g := y L T) fun w => .bind (α := IntKind × Int) (g := fun k => intK w fun j n => k (j, n)) (f := fun p H K => maskK v
    (fun j m r => iteO (band (Nat.beq (kno j) (kno p.1)) (eqI p.2 (.ofNat m))) (K (.int j (.ofNat r)) H) (.fail 95)) (fun j m d r => iteO (band (Nat.beq (kno j) (kno p.1)) (eqI p.2 (.ofNat m))) (K (.md j d r) H) (.fail 95)) (fun j a => iteO (Nat.beq (kno j) (kno p.1)) (bAnd j a p.2 H K) (.fail 30))) fun p =>
    .maskK (fun j m r => .ite (.ret _) (.fail _)) (fun j m d r => .ite (.ret _) (.fail _)) fun j a => .ite (.binI .and j a p.2) (.fail _), fun _ => rfl⟩
theorem pure_rem (x y : XT) : PureH (hRem x y) := fun call L T => ⟨.bind (g := x L T) fun v => .bind (g := y L T) fun w => .bind (α := IntKind × Int) (g := fun k => intK w fun j n => k (j, n)) (f := fun p H K => mdK v
    (fun j d r => iteO (band (Nat.beq (kno j) (kno p.1)) (eqI p.2 (.ofNat d))) (K (.int j (.ofNat r)) H) (.fail 95)) (fun j a => iteO (Nat.beq (kno j) (kno p.1)) (bMod j a p.2 H K) (.fail 30))) fun p =>
    .mdK (fun j d r => .ite (.ret _) (.fail _)) fun j a => .ite (.binI .rem j a p.2) (.fail _), fun _ => rfl⟩
theorem PureB.pnK {v : AV} {f : AH → KV → Out} {g : P → Nat → Nat → Nat → Nat → AH → KV → Out} (hf : PureB f) (hg : ∀ a b c d e, PureB (g a b c d e)) : PureB fun H K => pnK v (f H K) (fun a b c d e => g a b c d e H K) := by
  cases v
  case nilp => exact hf
  case ptr a b c d e => exact hg a b c d e
  all_goals exact .fail _
theorem pure_eqNilP (n : Bool) (x y : XT) : PureH (hEqNilP n x y) := fun call L T => ⟨.bind (g := x L T) fun v => .bind (g := y L T) fun w => .pnK (.pnK (.ret _) fun _ _ _ _ _ => .ret _) fun _ _ _ _ _ => .pnK (.ret _) fun _ _ _ _ _ => .fail _, fun _ => rfl⟩
theorem pure_eqNilS (n : Bool) (x y : XT) : PureH (hEqNilS n x y) := fun call L T => ⟨.bind (g := x L T) fun v => .bind (g := y L T) fun w => .slK (.slK (.ret _) fun _ _ _ _ _ => .ret _) fun _ _ _ _ _ => .slK (.ret _) fun _ _ _ _ _ => .fail _, fun _ => rfl⟩
theorem pure_eqB (n : Bool) (x y : XT) : PureH (hEqB n x y) := fun call L T => ⟨.bind (g := x L T) fun v => .bind (g := y L T) fun w => .bind (g := boolK v) fun a => .bind (g := boolK w) fun b => .kb _, fun _ => rfl⟩
theorem pure_not (x : XT) : PureH (hNot x) := fun call L T => ⟨.bind (g := x L T) fun v => .bind (g := boolK v) fun a => .kb _, fun _ => rfl⟩
theorem pure_neg (x : XT) : PureH (hNeg x) := fun call L T => ⟨.bind (g := x L T) fun v => .bind (α := IntKind × Int) (g := fun k => intK v fun j n => k (j, n)) (f := fun p H K => fit p.1 (Int.neg p.2) H K) fun p => .fit _ _, fun _ => rfl⟩
theorem pure_conv (j : IntKind) (x : XT) : PureH (hConv j x) := fun call L T => ⟨.bind (g := x L T) fun v => .bind (α := IntKind × Int) (g := fun k => intK v fun j n => k (j, n)) (f := fun p H K => fit j p.2 H K) fun p => .fit _ _, fun _ => rfl⟩
theorem pure_conv8 (x : XT) : PureH (hConv8 x) := fun call L T => ⟨.bind (g := x L T) fun v => .bind (g := natK v) fun n => .ret _, fun _ => rfl⟩
theorem pure_mkfn (f : P) (x y : List XT) : PureH (hMkfn f x y) := fun call L T => ⟨.bind (g := rds L T x) fun v => .bind (g := rds L T y) fun w => .ret _, fun _ => rfl⟩
theorem pure_substr (x : XT) (lo hi : Option XT) : PureH (hSubstr x lo hi) := fun call L T => ⟨.bind (g := x L T) fun v => .bind (g := rdV L T lo) fun lo => .bind (g := rdV L T hi) fun hi => .bind (α := Nat × Nat) (g := fun k => strK v fun l b => k (l, b)) (f := fun p H K => bnd p.1 hi fun h => bnd 0 lo fun l =>
    iteO (band (Nat.ble l h) (Nat.ble h p.1)) (forceS (Nat.sub h l) (Nat.mod (Nat.div p.2 (Nat.pow 2 (Nat.mul 8 l))) (Nat.pow 2 (Nat.mul 8 (Nat.sub h l)))) H K) (.fail 45)) fun p =>
    .bind (g := bnd p.1 hi) fun h => .bind (g := bnd 0 lo) fun l => .ite (.forceS _ _) (.fail _), fun _ => rfl⟩
theorem pure_subsl (sz : Nat) (x : XT) (lo hi : Option XT) : PureH (hSubsl sz x lo hi) := fun call L T => ⟨.bind (g := x L T) fun v => .bind (g := rdV L T lo) fun lo => .bind (g := rdV L T hi) fun hi => .slK (.fail _) fun b g off len s => .ite (.bind (g := bnd len hi) fun h => .bind (g := bnd 0 lo) fun l => .ite (.bind (g := forceN (Nat.sub h l)) fun n => .bind (g := forceN (Nat.add off l)) fun o => .ret _) (.fail _)) (.fail _), fun _ => rfl⟩
theorem pure_faddr (o r : Nat) (x : XT) : PureH (hFaddr o r x) := fun call L T => ⟨.bind (g := x L T) fun v => .bind (α := P × Nat × Nat × Nat × Nat) (g := fun k => ptrK v fun a b c d e => k (a, b, c, d, e)) (f := fun p H K => iteO (Nat.ble (Nat.add o r) p.2.2.2.2) (K (.ptr p.1 p.2.1 p.2.2.1 (Nat.add p.2.2.2.1 o) r) H) (.fail 50)) fun p =>
    .ite (.ret _) (.fail _), fun _ => rfl⟩
theorem pure_field1 (o : Nat) (x : XT) : PureH (hField1 o x) := fun call L T => ⟨.bind (g := x L T) fun v => .bind (g := aggK v) fun cs => .bind (g := nthK (.fail 52) cs o) fun v => .ret _, fun _ => rfl⟩
theorem pure_fieldN (o n : Nat) (x : XT) : PureH (hFieldN o n x) := fun call L T => ⟨.bind (g := x L T) fun v => .bind (g := aggK v) fun cs => .bind (g := dropK (.fail 52) o cs) fun l => .bind (g := takeK (.fail 52) n l) fun l => .ret _, fun _ => rfl⟩
theorem pure_iaddr (sz : Nat) (x y : XT) : PureH (hIaddr sz x y) := fun call L T => ⟨.bind (g := x L T) fun v => .bind (g := y L T) fun w => .slK (.fail _) fun b g off len s => .bind (g := natK w) fun m => .ite (.ret _) (.fail _), fun _ => rfl⟩
theorem pure_sidx (x y : XT) : PureH (hSidx x y) := fun call L T => ⟨.bind (g := x L T) fun v => .bind (g := y L T) fun w => .bind (α := Nat × Nat) (g := fun k => strK v fun l b => k (l, b)) (f := fun p H K => natK w fun m => iteO (Nat.ble (Nat.succ m) p.1) (K (.int .u8 (.ofNat (byteAt p.2 m))) H) (.fail 56)) fun p =>
    .bind (g := natK w) fun m => .ite (.ret _) (.fail _), fun _ => rfl⟩
theorem pure_ext (x : XT) (i : Nat) : PureH (hExt x i) := fun call L T => ⟨.bind (g := x L T) fun v => .bind (g := tupK v) fun vs => .bind (g := nthK (.fail 58) vs i) fun v => .ret _, fun _ => rfl⟩
theorem pure_strlen (x : XT) : PureH (hStrlen x) := fun call L T => ⟨.bind (g := x L T) fun v => .bind (α := Nat × Nat) (g := fun k => strK v fun l b => k (l, b)) (f := fun p H K => fit .i64 (.ofNat p.1) H K) fun p => .fit _ _, fun _ => rfl⟩
theorem pure_sllen (x : XT) : PureH (hSllen x) := fun call L T => ⟨.bind (g := x L T) fun v => .slK (.ret _) fun _ _ _ len _ => .fit _ _, fun _ => rfl⟩
theorem pure_min (x : XT) (xs : List XT) : PureH (hMin x xs) := fun call L T => ⟨.bind (g := x L T) fun v => .bind (g := rds L T xs) fun vs => .bind (α := IntKind × Int) (g := fun k => intK v fun j n => k (j, n)) (f := fun p H K => minL p.1 vs p.2 fun n => K (.int p.1 n) H) fun p => .bind (g := minL p.1 vs p.2) fun n => .ret _, fun _ => rfl⟩
theorem pure_max (x : XT) (xs : List XT) : PureH (hMax x xs) := fun call L T => ⟨.bind (g := x L T) fun v => .bind (g := rds L T xs) fun vs => .bind (α := IntKind × Int) (g := fun k => intK v fun j n => k (j, n)) (f := fun p H K => maxL p.1 vs p.2 fun n => K (.int p.1 n) H) fun p => .bind (g := maxL p.1 vs p.2) fun n => .ret _, fun _ => rfl⟩
theorem pure_guard {h : HT} (hp : PureH h) (x : XT) (w : Bool) : PureH (hG x w h) := fun call L T => by
  refine ⟨.bind (g := x L T) fun v => ?_, fun call' => ?_⟩
  · cases v
    case undef => exact .ret _
    case bool b => cases w with
      | false => exact .ite (.ret _) (hp call L T).1
      | true => exact .ite (hp call L T).1 (.ret _)
    all_goals exact .fail _
  · funext H K
    show (x L T fun v => grd v w (K .undef H) (h call' L T H K)) = _
    rw [(hp call L T).2 call']

theorem pure_cpBin {rd : Operand → Option XT} {op : BinOp} {t : TypeId} {y z : Operand} {h : HT} (hh : cpBin Pr rd op t y z = some h) : PureH h := by
  unfold cpBin at hh
  split at hh
  · split at hh
    · obtain ⟨x, u, hx, hu, rfl⟩ := cp2_some hh; exact pure_shr _ _
    · obtain ⟨x, u, hx, hu, rfl⟩ := cp2_some hh; exact pure_and _ _
    · obtain ⟨x, u, hx, hu, rfl⟩ := cp2_some hh; exact pure_rem _ _
    · obtain ⟨x, u, hx, hu, rfl⟩ := cp2_some hh; exact pure_bin _ _ _
  · obtain ⟨x, u, hx, hu, rfl⟩ := cp2_some hh; exact pure_bin _ _ _
  · split at hh
    · obtain ⟨x, u, hx, hu, rfl⟩ := cp2_some hh; exact pure_eqNilP _ _ _
    · obtain ⟨x, u, hx, hu, rfl⟩ := cp2_some hh; exact pure_eqNilP _ _ _
    · cases hh
  · split at hh
    · obtain ⟨x, u, hx, hu, rfl⟩ := cp2_some hh; exact pure_eqNilS _ _ _
    · obtain ⟨x, u, hx, hu, rfl⟩ := cp2_some hh; exact pure_eqNilS _ _ _
    · cases hh
  · split at hh
    · obtain ⟨x, u, hx, hu, rfl⟩ := cp2_some hh; exact pure_eqB _ _ _
    · obtain ⟨x, u, hx, hu, rfl⟩ := cp2_some hh; exact pure_eqB _ _ _
    · cases hh
  · cases hh
theorem compOp_pure {rd : Operand → Option XT} {op : Op} {h : HT} (hh : compOp Pr rd op = some h) (hk : kindOf op = 0) : PureH h := by
  unfold compOp at hh
  split at hh <;> try (cases hk; done)
  · obtain ⟨x, hx, rfl⟩ := cp1_some hh; exact pure_mv _
  · obtain ⟨x, hx, rfl⟩ := cp1_some hh; exact pure_mv _
  · obtain ⟨c, hc, hh⟩ := Option.bind_eq_some_iff.1 hh
    obtain ⟨x, u, hx, hu, rfl⟩ := cp2_some hh
    exact pure_pick _ _ _
  · obtain ⟨zp, hp, hh⟩ := Option.bind_eq_some_iff.1 hh
    obtain ⟨z, hz, hh⟩ := Option.bind_eq_some_iff.1 hh
    obtain ⟨ps, hps, hh⟩ := Option.bind_eq_some_iff.1 hh
    cases hh; exact pure_build _ _
  · obtain ⟨x, hx, rfl⟩ := cp1_some hh; exact pure_nilc _
  · exact pure_cpBin hh
  · obtain ⟨x, hx, rfl⟩ := cp1_some hh; exact pure_not _
  · obtain ⟨x, hx, rfl⟩ := cp1_some hh; exact pure_neg _
  · obtain ⟨p, hp, hh⟩ := Option.bind_eq_some_iff.1 hh
    obtain ⟨xs, hxs, hh⟩ := Option.bind_eq_some_iff.1 hh
    obtain ⟨us, hus, hh⟩ := Option.bind_eq_some_iff.1 hh
    cases hh; exact pure_mkfn _ _ _
  · obtain ⟨x, hx, hh⟩ := Option.bind_eq_some_iff.1 hh
    obtain ⟨l, hl, hh⟩ := Option.bind_eq_some_iff.1 hh
    obtain ⟨u, hu, hh⟩ := Option.bind_eq_some_iff.1 hh
    split at hh
    · cases hh; exact pure_substr _ _ _
    · obtain ⟨i, hi, hh⟩ := Option.bind_eq_some_iff.1 hh
      cases hh; exact pure_subsl _ _ _ _
    · cases hh
  · unfold cpFaddr at hh
    split at hh
    · obtain ⟨fd, hf, hh⟩ := Option.bind_eq_some_iff.1 hh
      obtain ⟨i, hi, hh⟩ := Option.bind_eq_some_iff.1 hh
      cases hb : Nat.beq i.size 0 with
      | true => rw [hb] at hh; cases hh
      | false =>
        rw [hb, cond_false] at hh
        obtain ⟨x, hx, rfl⟩ := cp1_some hh; exact pure_faddr _ _ _
    · cases hh
  · unfold cpField at hh
    split at hh
    · obtain ⟨fd, hf, hh⟩ := Option.bind_eq_some_iff.1 hh
      obtain ⟨d, hd, hh⟩ := Option.bind_eq_some_iff.1 hh
      cases hb : aggB Pr fd.type with
      | true =>
        rw [hb, cond_true] at hh
        obtain ⟨i, hi, hh⟩ := Option.bind_eq_some_iff.1 hh
        obtain ⟨x, hx, rfl⟩ := cp1_some hh; exact pure_fieldN _ _ _
      | false =>
        rw [hb, cond_false] at hh
        obtain ⟨x, hx, rfl⟩ := cp1_some hh; exact pure_field1 _ _
    · cases hh
  · unfold cpIaddr at hh
    split at hh
    · obtain ⟨i, hi, hh⟩ := Option.bind_eq_some_iff.1 hh
      obtain ⟨x, u, hx, hu, rfl⟩ := cp2_some hh; exact pure_iaddr _ _ _
    · cases hh
  · unfold cpIndex at hh
    split at hh
    · obtain ⟨x, u, hx, hu, rfl⟩ := cp2_some hh; exact pure_sidx _ _
    · cases hh
  · obtain ⟨x, hx, rfl⟩ := cp1_some hh; exact pure_ext _ _
  · rename_i c
    obtain ⟨callee, args, argTypes⟩ := c
    unfold cpCall at hh
    dsimp only at hh
    split at hh <;> try (cases hk; done)
    · unfold cpLen at hh
      split at hh
      · split at hh
        · obtain ⟨x, hx, rfl⟩ := cp1_some hh; exact pure_strlen _
        · obtain ⟨x, hx, rfl⟩ := cp1_some hh; exact pure_sllen _
        · cases hh
      · cases hh
    · unfold cpMin at hh
      split at hh
      · obtain ⟨x, hx, hh⟩ := Option.bind_eq_some_iff.1 hh
        obtain ⟨xs, hxs, hh⟩ := Option.bind_eq_some_iff.1 hh
        cases hh; exact pure_min _ _
      · cases hh
    · unfold cpMin at hh
      split at hh
      · obtain ⟨x, hx, hh⟩ := Option.bind_eq_some_iff.1 hh
        obtain ⟨xs, hxs, hh⟩ := Option.bind_eq_some_iff.1 hh
        cases hh; exact pure_max _ _
      · cases hh
    · cases hh
  · cases hh
end
end Go.Ev
/- Reading and making memory, at a memory that holds the same where it matters. -/
namespace Go.Ev
noncomputable section
variable {Pr : Program}

def okOut (v : AV) (H : AH) : Out := .nrm Fm.e [⟨⟨.d0, .d0, .d0, .d0⟩, [v]⟩] H
theorem okOut_inj {v u : AV} {H G : AH} (h : okOut v H = okOut u G) : v = u ∧ H = G := by
  unfold okOut at h
  injection h with _ h2 h3
  injection h2 with h4 _
  injection h4 with _ h5
  injection h5 with h6 _
  exact ⟨h6, h3⟩
theorem Det.at {h : KV → Out} {R : AV → AH → Prop} (hd : Det h R) {v : AV} {H : AH} (hk : ∀ K, h K = K v H) : R v H := by
  rcases hd with ⟨u, G, hr, hu⟩ | hb
  · have := (hu okOut).symm.trans (hk okOut)
    obtain ⟨h5, h3⟩ := okOut_inj this
    subst h5; subst h3
    exact hr
  · obtain ⟨n, hn⟩ := hb okOut
    rw [hk okOut] at hn
    cases hn
theorem Hands.at {α : Type} {f : (α → Out) → Out} {R : α → Prop} (h : Hands f R) {g : α → KV → Out} {v : AV} {H : AH} (hk : ∀ K : KV, (f fun u => g u K) = K v H) : ∃ u, R u ∧ (∀ k, f k = k u) ∧ ∀ K, g u K = K v H := by
  rcases h with ⟨u, hr, hu⟩ | hb
  · exact ⟨u, hr, hu, fun K => by rw [← hk K, hu]⟩
  · obtain ⟨n, hn⟩ := hb fun u => g u okOut
    rw [hk okOut] at hn
    cases hn
theorem Det.reach {h : KV → Out} {R : AV → AH → Prop} (hd : Det h R) {v : AV} {H : AH} (hk : h okOut = okOut v H) : R v H ∧ ∀ K, h K = K v H := by
  rcases hd with ⟨u, G, hr, hu⟩ | hb
  · have := (hu okOut).symm.trans hk
    obtain ⟨h5, h3⟩ := okOut_inj this
    subst h5; subst h3
    exact ⟨hr, hu⟩
  · obtain ⟨n, hn⟩ := hb okOut
    rw [hk] at hn
    cases hn

theorem PureH.at {h : HT} (hp : PureH h) {call : FT} {L : List AV} {T : Fm} {F F' : AH} {v : AV} (hk : ∀ K, h call L T F K = K v F') (G : AH) : (∀ K, h call L T G K = K v G) ∧ F' = F := by
  have h1 : ∀ K : AV → Out, (h call L T H0 fun v _ => K v) = K v := fun K => by
    have := hk fun v _ => K v
    rw [(hp call L T).1 F] at this
    exact this
  refine ⟨fun K => ?_, ?_⟩
  · rw [(hp call L T).1 G]
    exact h1 fun v => K v G
  · have := hk okOut
    rw [(hp call L T).1 F, h1 fun v => okOut v F] at this
    have h3 := (okOut_inj this).2
    exact h3.symm

/-- G holds what F holds, where it matters -/
def Covers (μ : M) (F G : AH) : Prop := ∀ b B g e, F.bl.at b = some B → μ b g = some e → G.bl.at b = some B
/-- a handler that only reads -/
def ReadsAt (μ : M) (h : KV → Out) (h' : KV → Out) (F G : AH) : Prop := ∀ v F', (∀ K, h K = K v F') → (∀ K, h' K = K v G) ∧ F' = F

theorem load_at {μ : M} {n : Option Nat} {x : XT} {L : List AV} {T : Fm} {y : Value} (hx : Rd μ (x L T) y) {F G : AH} (hc : Covers μ F G) (call : FT) : ReadsAt μ (hLoad n x call L T F) (hLoad n x call L T G) F G := by
  intro v F' hk
  unfold hLoad at hk ⊢
  obtain ⟨u, hu, hu2, hk⟩ := Hands.at (g := fun v K => ptrK v fun b g i off room => atBlk F b g i fun cs => ldK n off room cs fun v => K v F) hx hk
  obtain ⟨p, rfl, hp, hk⟩ := Hands.at (g := fun (p : P × Nat × Nat × Nat × Nat) K => atBlk F p.1 p.2.1 p.2.2.1 fun cs => ldK n p.2.2.2.1 p.2.2.2.2 cs fun v => K v F) (hands_ptrK u) hk
  unfold atBlk blk at hk
  obtain ⟨B, hB, hB2, hk⟩ := Hands.at (g := fun B (K : KV) => iteO (Nat.ble B.dirty p.2.1) (B.el.getK (.fail 8) p.2.2.1 fun cs => ldK n p.2.2.2.1 p.2.2.2.2 cs fun v => K v F) (.fail 9)) (hands_getP 4 p.1 F.bl) hk
  have key : ∀ K : AV → Out, (iteO (Nat.ble B.dirty p.2.1) (B.el.getK (.fail 8) p.2.2.1 fun cs => ldK n p.2.2.2.1 p.2.2.2.2 cs fun v => K v) (.fail 9)) = K v := fun K => hk fun v _ => K v
  cases hu with
  | ptr _ _ _ _ _ e he =>
  have hG := hc _ _ _ _ hB he
  refine ⟨fun K => ?_, ?_⟩
  · rw [hu2]
    show (atBlk G p.1 p.2.1 p.2.2.1 fun cs => ldK n p.2.2.2.1 p.2.2.2.2 cs fun v => K v G) = _
    unfold atBlk blk
    rw [Hp.getP_eq, hG]
    exact key fun v => K v G
  · have := hk okOut
    rw [key fun v => okOut v F] at this
    have h3 := (okOut_inj this).2
    exact h3.symm
theorem ofBytes_at {μ : M} {x : XT} {L : List AV} {T : Fm} {y : Value} (hx : Rd μ (x L T) y) {F G : AH} (hc : Covers μ F G) (call : FT) : ReadsAt μ (hOfBytes x call L T F) (hOfBytes x call L T G) F G := by
  intro v F' hk
  unfold hOfBytes at hk ⊢
  obtain ⟨u, hu, hu2, hk⟩ := Hands.at (g := fun v K => slK v (K (.str 0 0) F) fun b g off len sx => blk F b fun B => iteO (band (Nat.beq sx 1) (Nat.ble B.dirty g))
    (readEl (.fail 40) B.el len off fun els => packL els fun r => forceS len r F K) (.fail 41)) hx hk
  cases u
  case nils =>
    have := hk okOut
    obtain ⟨h1, h3⟩ := okOut_inj this
    subst h1
    exact ⟨fun K => by rw [hu2]; rfl, h3.symm⟩
  case slice b g off len sx =>
    unfold blk at hk
    obtain ⟨B, hB, hB2, hk⟩ := Hands.at (g := fun B (K : KV) => iteO (band (Nat.beq sx 1) (Nat.ble B.dirty g))
      (readEl (.fail 40) B.el len off fun els => packL els fun r => forceS len r F K) (.fail 41)) (hands_getP 4 b F.bl) hk
    have key : ∀ (K : AV → Out) (G : AH), (iteO (band (Nat.beq sx 1) (Nat.ble B.dirty g)) (readEl (.fail 40) B.el len off fun els => packL els fun r => forceS len r G fun v _ => K v) (.fail 41)) = K v := fun K G => hk fun v _ => K v
    cases hu with
    | slice _ _ _ _ _ e o' cap he =>
    have hG := hc _ _ _ _ hB he
    refine ⟨fun K => ?_, ?_⟩
    · rw [hu2]
      show (blk G b fun B => iteO (band (Nat.beq sx 1) (Nat.ble B.dirty g)) (readEl (.fail 40) B.el len off fun els => packL els fun r => forceS len r G K) (.fail 41)) = _
      unfold blk
      rw [Hp.getP_eq, hG]
      exact key (fun v => K v G) G
    · have := hk okOut
      have k2 := key (fun v => okOut v F) F
      have e1 : ∀ r, (forceS len r F fun v _ => okOut v F) = forceS len r F okOut := fun r => rfl
      have h3 := this.symm.trans k2
      exact (okOut_inj h3).2
  all_goals
    have := hk okOut
    cases this
theorem PureH.readsAt {h : HT} (hp : PureH h) (μ : M) (call : FT) (L : List AV) (T : Fm) (F G : AH) : ReadsAt μ (h call L T F) (h call L T G) F G := fun _ _ hk => hp.at hk G
theorem guard_at {μ : M} {h : HT} {x : XT} {w : Bool} {L : List AV} {T : Fm} {y : Value} (hx : Rd μ (x L T) y) {F G : AH} {call : FT} (hr : ReadsAt μ (h call L T F) (h call L T G) F G) : ReadsAt μ (hG x w h call L T F) (hG x w h call L T G) F G := by
  intro v F' hk
  unfold hG at hk ⊢
  obtain ⟨u, hu, hu2, hk⟩ := Hands.at (g := fun v K => grd v w (K .undef F) (h call L T F K)) hx hk
  have skip : (∀ K : KV, K .undef F = K v F') → (∀ K : KV, K .undef G = K v G) ∧ F' = F := fun hk => by
    have := hk okOut
    obtain ⟨h1, h3⟩ := okOut_inj this
    subst h1
    exact ⟨fun K => rfl, h3.symm⟩
  cases u
  case undef =>
    obtain ⟨h1, h2⟩ := skip hk
    exact ⟨fun K => by rw [hu2]; exact h1 K, h2⟩
  case bool b =>
    by_cases hb : b = w
    · subst hb
      have e : ∀ a c : Out, grd (.bool b) b a c = c := fun a c => by cases b <;> rfl
      simp only [e] at hk
      obtain ⟨h1, h2⟩ := hr v F' hk
      exact ⟨fun K => by rw [hu2]; simp only [e]; exact h1 K, h2⟩
    · have e : ∀ a c : Out, grd (.bool b) w a c = a := fun a c => by cases b <;> cases w <;> first | rfl | exact absurd rfl hb
      simp only [e] at hk
      obtain ⟨h1, h2⟩ := skip hk
      exact ⟨fun K => by rw [hu2]; simp only [e]; exact h1 K, h2⟩
  all_goals
    have := hk okOut
    cases this
theorem compOp_reads {μ : M} {a : Act} {L : List AV} {T : Fm} {rd : Operand → Option XT} {op : Op} {h : HT} (hh : compOp Pr rd op = some h) (hkd : kindOf op = 1) (hr : Reads μ a L T rd) {F G : AH} (hc : Covers μ F G) (call : FT) :
    ReadsAt μ (h call L T F) (h call L T G) F G := by
  unfold compOp at hh
  split at hh <;> try (cases hkd; done)
  · obtain ⟨d, hd, hh⟩ := Option.bind_eq_some_iff.1 hh
    obtain ⟨i, hi, hh⟩ := Option.bind_eq_some_iff.1 hh
    obtain ⟨x, hx, rfl⟩ := cp1_some hh
    exact load_at (hr _ _ hx) hc call
  · unfold cpConv at hh
    split at hh
    · obtain ⟨x, hx, rfl⟩ := cp1_some hh; exact (pure_conv8 x).readsAt μ call L T F G
    · obtain ⟨x, hx, rfl⟩ := cp1_some hh; exact (pure_conv _ x).readsAt μ call L T F G
    · split at hh
      · obtain ⟨x, hx, rfl⟩ := cp1_some hh; exact ofBytes_at (hr _ _ hx) hc call
      · cases hh
    · cases hh
  · rename_i c
    obtain ⟨callee, args, argTypes⟩ := c
    unfold kindOf at hkd
    dsimp only at hkd
    split at hkd <;> cases hkd
  · cases hh

theorem compOp_keep {rd : Operand → Option XT} {op : Op} {h : HT} (hh : compOp Pr rd op = some h) (hkd : kindOf op = 1) (call : FT) (L : List AV) (T : Fm) (H : AH) (K : KV) : h call L T H K = h call L T H fun v _ => K v H := by
  unfold compOp at hh
  split at hh <;> try (cases hkd; done)
  · obtain ⟨d, hd, hh⟩ := Option.bind_eq_some_iff.1 hh
    obtain ⟨i, hi, hh⟩ := Option.bind_eq_some_iff.1 hh
    obtain ⟨x, hx, rfl⟩ := cp1_some hh
    rfl
  · unfold cpConv at hh
    split at hh
    · obtain ⟨x, hx, rfl⟩ := cp1_some hh
      rw [(pure_conv8 x call L T).1 H K, (pure_conv8 x call L T).1 H fun v _ => K v H]
    · obtain ⟨x, hx, rfl⟩ := cp1_some hh
      rw [(pure_conv _ x call L T).1 H K, (pure_conv _ x call L T).1 H fun v _ => K v H]
    · split at hh
      · obtain ⟨x, hx, rfl⟩ := cp1_some hh; rfl
      · cases hh
    · cases hh
  · rename_i c
    obtain ⟨callee, args, argTypes⟩ := c
    unfold kindOf at hkd
    dsimp only at hkd
    split at hkd <;> cases hkd
  · cases hh
theorem keep_same {f : KV → Out} {H F' : AH} {v : AV} (hkeep : ∀ K, f K = f fun v _ => K v H) (hk : ∀ K, f K = K v F') : F' = H := by
  have h1 := hk okOut
  rw [hkeep] at h1
  have h2 := hk fun v _ => okOut v H
  have h3 := h1.symm.trans h2
  exact (okOut_inj h3).2
theorem keep_guard {x : XT} {w : Bool} {h : HT} {call : FT} {L : List AV} {T : Fm} {H : AH} (hkeep : ∀ K, h call L T H K = h call L T H fun v _ => K v H) (K : KV) : hG x w h call L T H K = hG x w h call L T H fun v _ => K v H := by
  refine congrArg (x L T) (funext fun v => ?_)
  show grd v w (K .undef H) (h call L T H K) = grd v w (K .undef H) (h call L T H fun v _ => K v H)
  rw [← hkeep]

/-! ### making memory -/
/-- what a handler that makes memory is -/
def AllocAt (h : AH → KV → Out) : Prop := ∃ f : ((Blk × (P → AV)) → Out) → Out, Hands f (fun _ => True) ∧ ∀ H K, h H K = f fun p => newBlk p.1 H fun b H => K (p.2 b) H
theorem AllocAt.at {h : AH → KV → Out} (ha : AllocAt h) {F F' : AH} {v : AV} (hk : ∀ K, h F K = K v F') : ∃ (B : Blk) (mk : P → AV), v = mk F.next ∧ F.bl.at F.next = none ∧ F'.bl = F.bl.put B F.next ∧
    ∀ G : AH, G.next = F.next → G.bl.at F.next = none → ∃ G', (∀ K, h G K = K v G') ∧ G'.bl = G.bl.put B F.next := by
  obtain ⟨f, hf, he⟩ := ha
  have hk' : ∀ K : KV, (f fun p => newBlk p.1 F fun b H => K (p.2 b) H) = K v F' := fun K => (he F K).symm.trans (hk K)
  obtain ⟨p, _, hp, hk2⟩ := Hands.at (g := fun (p : Blk × (P → AV)) (K : KV) => newBlk p.1 F fun b H => K (p.2 b) H) hf hk'
  have hfree : F.bl.at F.next = none := by
    have := hk2 okOut
    rw [newBlk_eq] at this
    rw [Hp.free_eq] at this
    cases hn : F.bl.at F.next with
    | none => rfl
    | some B => rw [hn] at this; cases this
  have hq0 : ∃ q, ∀ k : P → Out, F.next.succK k = k q := by
    rcases P.succK_ex F.next with h | hbad
    · exact h
    · exfalso
      have := hk2 okOut
      rw [newBlk_eq] at this
      rw [Hp.free_eq, hfree] at this
      have this : (Hp.setP p.1 F.next F.bl fun bl' => P.succK F.next fun nx => okOut (p.2 F.next) ⟨nx, bl'⟩) = okOut v F' := this
      rw [Hp.setP_eq, hbad] at this
      cases this
  obtain ⟨q, hq⟩ := hq0
  have hnew : ∀ (G : AH) (K : P → AH → Out), G.next = F.next → G.bl.at F.next = none → newBlk p.1 G K = K F.next ⟨q, G.bl.put p.1 F.next⟩ := fun G K h1 h2 => by
    rw [newBlk_eq]
    rw [h1, Hp.free_eq, h2]
    show (Hp.setP p.1 F.next G.bl fun bl' => P.succK F.next fun nx => K F.next ⟨nx, bl'⟩) = _
    rw [Hp.setP_eq, hq]
  have h1 := hk2 okOut
  rw [hnew F _ rfl hfree] at h1
  obtain ⟨h2, h3⟩ := okOut_inj h1
  refine ⟨p.1, p.2, h2.symm, hfree, by rw [← h3], fun G hg1 hg2 => ⟨⟨q, G.bl.put p.1 F.next⟩, fun K => ?_, rfl⟩⟩
  rw [he, hp, hnew G _ hg1 hg2, h2]
theorem hands_elsP0 {L : List AV} {T : Fm} {sz : Nat} {z : List AV} : ∀ {xs : List (Option XT)}, (∀ x, some x ∈ xs → Hands (x L T) fun _ => True) → Hands (fun k => elsP L T sz z xs k) fun _ => True
  | [], _ => Hands.pure trivial
  | none :: xs, h => by
    unfold elsP
    refine Hands.bind (f := fun k => elP L T sz z none k) (R := fun _ => True) (g := fun c k => elsP L T sz z xs fun r => k (c :: r)) (.inl ⟨z, trivial, fun _ => rfl⟩) fun c _ => ?_
    exact Hands.bind (g := fun r k => k (c :: r)) (hands_elsP0 fun x hx => h x (List.mem_cons_of_mem _ hx)) fun r _ => Hands.pure trivial
  | some x :: xs, h => by
    unfold elsP
    refine Hands.bind (f := fun k => elP L T sz z (some x) k) (R := fun _ => True) (g := fun c k => elsP L T sz z xs fun r => k (c :: r)) ?_ fun c _ => ?_
    · refine Hands.bind (g := fun v k => cellsK v fun vs => iteO (Nat.beq (lenL vs) sz) (k vs) (.fail 15)) (h x (by simp)) fun v _ => ?_
      refine Hands.bind (g := fun vs k => iteO (Nat.beq (lenL vs) sz) (k vs) (.fail 15)) (hands_cellsK v) fun vs _ => ?_
      exact Hands.ite (x := fun k => k vs) (fun _ => Hands.pure trivial) fun _ => Hands.fail _
    · exact Hands.bind (g := fun r k => k (c :: r)) (hands_elsP0 fun x hx => h x (List.mem_cons_of_mem _ hx)) fun r _ => Hands.pure trivial
theorem bsL_mem {rd : Operand → Option XT} : ∀ {n i : Nat} {qs : List (Nat × Operand)} {xs : List (Option XT)}, bsL rd n i qs = some xs → ∀ x, some x ∈ xs → ∃ y, rd y = some x
  | 0, _, [], xs, h, x, hx => by cases h; cases hx
  | 0, _, _ :: _, xs, h, x, hx => by cases h
  | n + 1, i, [], xs, h, x, hx => by
    obtain ⟨r, hr', h⟩ := Option.bind_eq_some_iff.1 h
    cases h
    exact bsL_mem hr' x (by simpa using hx)
  | n + 1, i, q :: qs, xs, h, x, hx => by
    unfold bsL at h
    cases hb : Nat.beq q.1 i with
    | true =>
      rw [hb, cond_true] at h
      obtain ⟨y, hy, h⟩ := Option.bind_eq_some_iff.1 h
      obtain ⟨r, hr', h⟩ := Option.bind_eq_some_iff.1 h
      cases h
      rcases List.mem_cons.1 hx with e | hx
      · cases e; exact ⟨_, hy⟩
      · exact bsL_mem hr' x hx
    | false =>
      rw [hb, cond_false] at h
      obtain ⟨r, hr', h⟩ := Option.bind_eq_some_iff.1 h
      cases h
      exact bsL_mem hr' x (by simpa using hx)
theorem compOp_alloc {L : List AV} {T : Fm} {rd : Operand → Option XT} {op : Op} {h : HT} (hh : compOp Pr rd op = some h) (hkd : kindOf op = 2) (hr : ∀ y x, rd y = some x → Hands (x L T) fun _ => True) (call : FT) : AllocAt (h call L T) := by
  unfold compOp at hh
  split at hh <;> try (cases hkd; done)
  · obtain ⟨⟨i, z⟩, hz, hh⟩ := Option.bind_eq_some_iff.1 hh
    cases hh
    exact ⟨fun c => c (.mk 0 0 1 i.size (.n (some z) .e .e), fun b => .ptr b 0 0 0 i.size), Hands.pure trivial, fun _ _ => rfl⟩
  · obtain ⟨i, hi, hh⟩ := Option.bind_eq_some_iff.1 hh
    obtain ⟨x, hx, rfl⟩ := cp1_some hh
    refine ⟨fun c => x L T fun v => cellsK v fun cs => iteO (Nat.beq (lenL cs) i.size) (c (.mk 0 0 1 i.size (.n (some cs) .e .e), fun b => .ptr b 0 0 0 i.size)) (.fail 12), ?_, fun _ _ => rfl⟩
    refine Hands.bind (g := fun v (c : Blk × (P → AV) → Out) => cellsK v fun cs => iteO (Nat.beq (lenL cs) i.size) (c (.mk 0 0 1 i.size (.n (some cs) .e .e), fun b => .ptr b 0 0 0 i.size)) (.fail 12)) (hr _ _ hx) fun v _ => ?_
    refine Hands.bind (g := fun cs (c : Blk × (P → AV) → Out) => iteO (Nat.beq (lenL cs) i.size) (c (.mk 0 0 1 i.size (.n (some cs) .e .e), fun b => .ptr b 0 0 0 i.size)) (.fail 12)) (hands_cellsK v) fun cs _ => ?_
    exact Hands.ite (x := fun (c : Blk × (P → AV) → Out) => c (.mk 0 0 1 i.size (.n (some cs) .e .e), fun b => .ptr b 0 0 0 i.size)) (fun _ => Hands.pure trivial) fun _ => Hands.fail _
  · rename_i t len qs
    unfold cpBslice at hh
    split at hh
    · obtain ⟨⟨i, z⟩, hz, hh⟩ := Option.bind_eq_some_iff.1 hh
      obtain ⟨xs, hxs, hh⟩ := Option.bind_eq_some_iff.1 hh
      obtain ⟨zv, z1, z2, z3, z4⟩ := zeroL_some hz
      dsimp only at hh
      cases hb : Nat.ble (len * i.size) 16777216 with
      | false => rw [hb] at hh; cases hh
      | true =>
        rw [hb, cond_true] at hh
        cases hb2 : Nat.beq (len * i.size) 0 with
        | true => rw [hb2] at hh; cases hh
        | false =>
          rw [hb2] at hh; cases hh
          refine ⟨fun c => elsP L T i.size z xs fun els => fillK (.fail 16) els .e 0 fun t => c (.mk 0 0 len i.size t, fun b => .slice b 0 0 len i.size), ?_, fun _ _ => rfl⟩
          refine Hands.bind (g := fun els (c : Blk × (P → AV) → Out) => fillK (.fail 16) els .e 0 fun t => c (.mk 0 0 len i.size t, fun b => .slice b 0 0 len i.size)) (hands_elsP0 fun x hx => let ⟨y, hy⟩ := bsL_mem hxs x hx; hr y x hy) fun els _ => ?_
          exact Hands.bind (g := fun t (c : Blk × (P → AV) → Out) => c (.mk 0 0 len i.size t, fun b => .slice b 0 0 len i.size)) (hands_fillK 16 els .e 0) fun t _ => Hands.pure trivial
    · cases hh
  · rename_i t l c
    unfold cpMkslice at hh
    split at hh
    · obtain ⟨⟨i, z⟩, hz, hh⟩ := Option.bind_eq_some_iff.1 hh
      dsimp only at hh
      cases hb : sameOpd l c with
      | false => rw [hb] at hh; cases hh
      | true =>
        rw [hb, cond_true] at hh
        cases hb2 : Nat.ble i.bytes 1048576 with
        | false => rw [hb2] at hh; cases hh
        | true =>
          rw [hb2, cond_true] at hh
          obtain ⟨x, hx, rfl⟩ := cp1_some hh
          refine ⟨fun c => x L T fun v => natK v fun n => iteO (Nat.ble n 1048576) (rep z n fun els => fillK (.fail 44) els .e 0 fun t => c (.mk 0 0 n i.size t, fun b => .slice b 0 0 n i.size)) (.fail 43), ?_, fun _ _ => rfl⟩
          refine Hands.bind (g := fun v (c : Blk × (P → AV) → Out) => natK v fun n => iteO (Nat.ble n 1048576) (rep z n fun els => fillK (.fail 44) els .e 0 fun t => c (.mk 0 0 n i.size t, fun b => .slice b 0 0 n i.size)) (.fail 43)) (hr _ _ hx) fun v _ => ?_
          refine Hands.bind (g := fun n (c : Blk × (P → AV) → Out) => iteO (Nat.ble n 1048576) (rep z n fun els => fillK (.fail 44) els .e 0 fun t => c (.mk 0 0 n i.size t, fun b => .slice b 0 0 n i.size)) (.fail 43)) (hands_natK v) fun n _ => ?_
          refine Hands.ite (x := fun (c : Blk × (P → AV) → Out) => rep z n fun els => fillK (.fail 44) els .e 0 fun t => c (.mk 0 0 n i.size t, fun b => .slice b 0 0 n i.size)) (fun _ => ?_) fun _ => Hands.fail _
          refine Hands.bind (g := fun els (c : Blk × (P → AV) → Out) => fillK (.fail 44) els .e 0 fun t => c (.mk 0 0 n i.size t, fun b => .slice b 0 0 n i.size)) (hands_rep z n) fun els _ => ?_
          exact Hands.bind (g := fun t (c : Blk × (P → AV) → Out) => c (.mk 0 0 n i.size t, fun b => .slice b 0 0 n i.size)) (hands_fillK 44 els .e 0) fun t _ => Hands.pure trivial
    · cases hh
  · rename_i c
    obtain ⟨callee, args, argTypes⟩ := c
    unfold kindOf at hkd
    dsimp only at hkd
    split at hkd <;> cases hkd
  · cases hh
end
end Go.Ev
/- Regions that draw their order: what a canonical run has shown holds in every order. -/
namespace Go.Ev
noncomputable section
variable {Pr : Program}

/-! ### which operation stands before which -/
def before (pre : List Nat) (i j : Nat) : Bool := Nat.testBit (pre.getD i 0) j
def lis (listed : Array Bool) (i : Nat) : Prop := listed.getD i false = true
/-- every operation that stands before one, does so by an edge -/
def PreOk (ops : Array Oper) (pre : List Nat) : Prop :=
  ∀ i j, before pre i j = true → ∃ o, ops[i]? = some o ∧ ∃ e ∈ o.after, Region.binds .any e = true ∧ e.on < i ∧ (e.on = j ∨ before pre e.on j = true)
def EdgesOk (ops : Array Oper) : Prop := ∀ i o, ops[i]? = some o → ∀ e ∈ o.after, Region.binds .any e = true → e.on < i
def Closed (ops : Array Oper) (listed : Array Bool) : Prop := ∀ i o, lis listed i → ops[i]? = some o → ∀ e ∈ o.after, Region.binds .any e = true → lis listed e.on
theorem Closed.before {ops : Array Oper} {listed : Array Bool} {pre : List Nat} (hc : Closed ops listed) (hp : PreOk ops pre) : ∀ i j, Ev.before pre i j = true → (∀ o, ops[i]? = some o → ∀ e ∈ o.after, Region.binds .any e = true → lis listed e.on) → lis listed j := by
  intro i
  induction i using Nat.strongRecOn with
  | _ i ih =>
    intro j hb he
    obtain ⟨o, ho, e, hm, hbind, hlt, hor⟩ := hp i j hb
    have hl := he o ho e hm hbind
    rcases hor with rfl | hor
    · exact hl
    · exact ih e.on hlt j hor fun o' ho' e' hm' hb' => hc e.on o' hl ho' e' hm' hb'
theorem Closed.before' {ops : Array Oper} {listed : Array Bool} {pre : List Nat} (hc : Closed ops listed) (hp : PreOk ops pre) {i j : Nat} (hb : Ev.before pre i j = true) (hi : lis listed i) : lis listed j :=
  hc.before hp i j hb fun o ho e hm hbind => hc i o hi ho e hm hbind

/-! ### operands -/
def wrAfter (pre : List Nat) (i : Nat) (t : Tmp) : List (Option Tmp) → Nat → Bool
  | [], _ => true
  | d :: ds, j => bif (bif d == some t then before pre j i else true) then wrAfter pre i t ds (j + 1) else false
theorem wrAfter_spec {pre : List Nat} {i : Nat} {t : Tmp} : ∀ {ds : List (Option Tmp)} {j m : Nat}, wrAfter pre i t ds j = true → ds[m]? = some (some t) → before pre (j + m) i = true
  | [], j, m, _, hm => by simp at hm
  | d :: ds, j, m, h, hm => by
    unfold wrAfter at h
    cases hb : (bif d == some t then before pre j i else true) with
    | false => rw [hb] at h; cases h
    | true =>
      rw [hb, cond_true] at h
      cases m with
      | zero =>
        simp at hm
        subst hm
        simpa using hb
      | succ m =>
        have := wrAfter_spec (m := m) h (by simpa using hm)
        rwa [show j + (m + 1) = j + 1 + m by omega]
def rdD (pre : List Nat) (ds : List (Option Tmp)) (i : Nat) (last : List (Nat × Option Tmp)) (slot : Tmp → Option Sl) : Operand → Option XT
  | .tmp t => match ixOf t (last.map Prod.snd) 0 with
    | some n => match last[n]? with
      | some q => bif before pre i q.1 then some (xlN n) else none
      | none => none
    | none => bif wrAfter pre i t ds 0 then (slot t).bind fun p => some (xt p) else none
  | .const v => (constV v).bind fun x => some (xc x)
  | .func f => (P.ofF 40 f).bind fun p => some (xc (.fn p [] []))
  | .global _ => none
theorem ixOf_get {t : Tmp} : ∀ {ds : List (Option Tmp)} {n : Nat}, ixOf t ds 0 = some n → ds[n]? = some (some t)
  | [], n, h => by cases h
  | d :: ds, n, h => by
    unfold ixOf at h
    cases hb : (d == some t) with
    | true =>
      rw [hb, cond_true] at h
      cases h
      simpa using hb
    | false =>
      rw [hb, cond_false, ixOf_succ] at h
      obtain ⟨m, hm, rfl⟩ := Option.map_eq_some_iff.1 h
      simpa using ixOf_get hm
theorem ixOf_none {t : Tmp} : ∀ {ds : List (Option Tmp)}, ixOf t ds 0 = none → ∀ d ∈ ds, d ≠ some t
  | [], _, d, hd => by cases hd
  | d' :: ds, h, d, hd => by
    unfold ixOf at h
    cases hb : (d' == some t) with
    | true => rw [hb] at h; cases h
    | false =>
      rw [hb, cond_false, ixOf_succ, Option.map_eq_none_iff] at h
      rcases List.mem_cons.1 hd with rfl | hd
      · simpa using hb
      · exact ixOf_none h d hd
theorem hands_xlN (n : Nat) (L : List AV) (T : Fm) : Hands (xlN n L T) fun _ => True :=
  (show Hands (nthK (.fail 80) L n) fun _ => True from (hands_nthK 80 L n).mono fun _ _ => trivial)
theorem rdD_hands {pre : List Nat} {ds : List (Option Tmp)} {i : Nat} {last : List (Nat × Option Tmp)} {slot : Tmp → Option Sl} {L : List AV} {T : Fm} (y : Operand) (x : XT) (h : rdD pre ds i last slot y = some x) : Hands (x L T) fun _ => True := by
  unfold rdD at h
  split at h
  · split at h
    · split at h
      · rename_i q hq
        cases hb : before pre i q.1 with
        | false => rw [hb] at h; cases h
        | true => rw [hb] at h; cases h; exact hands_xlN _ L T
      · cases h
    · rename_i t _ _
      cases hb : wrAfter pre i t ds 0 with
      | false => rw [hb] at h; cases h
      | true =>
        rw [hb, cond_true] at h
        obtain ⟨p, hp, h⟩ := Option.bind_eq_some_iff.1 h
        cases h
        exact .inl ⟨_, trivial, fun _ => rfl⟩
  · obtain ⟨u, hu, h⟩ := Option.bind_eq_some_iff.1 h
    cases h; exact .inl ⟨u, trivial, fun _ => rfl⟩
  · obtain ⟨u, hu, h⟩ := Option.bind_eq_some_iff.1 h
    cases h; exact .inl ⟨_, trivial, fun _ => rfl⟩
  · cases h

/-! ### the invariant -/
section
variable {ops : Array Oper} {slot : Tmp → Option Sl} {N base n : Nat} {pre : List Nat} {call : FT} {T0 : Fm} {D0 : List Dfr} {a0 : Act} {w0 : World} {μ0 : M} {val : Nat → AV}

structure Core (ops : Array Oper) (N base n : Nat) (a0 : Act) (w0 : World) (μ0 : M) (val : Nat → AV) (listed : Array Bool) (a : Act) (w : World) (μ : M) : Prop where
  size : listed.size = n
  closed : Closed ops listed
  asz : a.tmps.size = N
  adef : a.defers = a0.defers
  vals : ∀ i o d, lis listed i → ops[i]? = some o → o.dst = some d → VRel μ (val i) (a.eval (.tmp d))
  rest : ∀ t, (∀ i o, lis listed i → ops[i]? = some o → o.dst ≠ some t) → a.eval (.tmp t) = a0.eval (.tmp t)
  ext : Ext μ0 μ
  fr : Fr base w0 w
/-- what the canonical run had read -/
def LOk (ops : Array Oper) (val : Nat → AV) (last : List (Nat × Option Tmp)) (L : List AV) : Prop := ∀ (m : Nat) (q : Nat × Option Tmp), last[m]? = some q → (∃ o : Oper, ops[q.1]? = some o ∧ o.dst = q.2) ∧ ∀ u, L[m]? = some u → u = val q.1
def TOk (slot : Tmp → Option Sl) (T0 : Fm) (last : List (Nat × Option Tmp)) (T : Fm) : Prop := ∀ t p, slot t = some p → (∀ q ∈ last, q.2 ≠ some t) → T.at p = T0.at p
def DsOk (ops : Array Oper) (ds : List (Option Tmp)) : Prop := ∀ (i : Nat) (o : Oper), ops[i]? = some o → ds[i]? = some o.dst

theorem Core.reads {listed : Array Bool} {a : Act} {w : World} {μ : M} (hc : Core ops N base n a0 w0 μ0 val listed a w μ) (hp : PreOk ops pre) {ds : List (Option Tmp)} (hds : DsOk ops ds) (h0 : ARel μ0 slot N T0 D0 a0)
    {i : Nat} (hi : ¬ lis listed i) (hready : ∀ o, ops[i]? = some o → ∀ e ∈ o.after, Region.binds .any e = true → lis listed e.on) {last : List (Nat × Option Tmp)} {L : List AV} {T : Fm} (hL : LOk ops val last L) (hT : TOk slot T0 last T) :
    Reads μ a L T (rdD pre ds i last slot) := by
  intro y x h
  unfold rdD at h
  split at h
  · rename_i t
    split at h
    · rename_i m hm
      split at h
      · rename_i q hq
        cases hb : before pre i q.1 with
        | false => rw [hb] at h; cases h
        | true =>
          rw [hb] at h; cases h
          have hd := ixOf_get hm
          rw [List.getElem?_map, hq, Option.map_some, Option.some.injEq] at hd
          obtain ⟨⟨o, ho, hod⟩, hu⟩ := hL m q hq
          refine rd_xl fun u hum => ?_
          rw [hu u hum]
          exact hc.vals q.1 o t (hc.closed.before hp i q.1 hb hready) ho (by rw [hod, hd])
      · cases h
    · rename_i hm
      cases hb : wrAfter pre i t ds 0 with
      | false => rw [hb] at h; cases h
      | true =>
        rw [hb, cond_true] at h
        obtain ⟨p, hp', h⟩ := Option.bind_eq_some_iff.1 h
        cases h
        refine rd_xt fun u hu => ?_
        have hn := ixOf_none hm
        rw [hT t p hp' fun q hq hqt => hn q.2 (List.mem_map.2 ⟨q, hq, rfl⟩) hqt] at hu
        rw [hc.rest t fun j o hj ho hd => ?_]
        · exact (h0.val t p u hp' hu).mono hc.ext
        · have := wrAfter_spec (m := j) hb (by rw [hds j o ho, hd])
          rw [Nat.zero_add] at this
          exact hi (hc.closed.before' hp this hj)
  · rename_i v
    obtain ⟨u, hu, h⟩ := Option.bind_eq_some_iff.1 h
    cases h
    exact .inl ⟨u, constV_rel hu μ, fun _ => rfl⟩
  · rename_i f
    obtain ⟨p, hp', h⟩ := Option.bind_eq_some_iff.1 h
    cases h
    have := P.ofF_nat _ _ _ hp'
    subst this
    exact .inl ⟨_, VRel.fn p [] [] [] [] .nil .nil, fun _ => rfl⟩
  · cases h

/-- the handler of an operation with its guard -/
def Grd (pre : List Nat) (ds : List (Option Tmp)) (i : Nat) (last : List (Nat × Option Tmp)) (slot : Tmp → Option Sl) (ops : Array Oper) (o : Oper) (h0 hf : HT) : Prop :=
  (o.guard = none ∧ hf = h0) ∨ ∃ g want t x, o.guard = some (g, want) ∧ (ops[g]?).bind (·.dst) = some t ∧ rdD pre ds i last slot (.tmp t) = some x ∧ hf = hG x want h0
/-- at the memory F the operation answers its canonical value, and leaves F' -/
def Wit (Pr : Program) (ops : Array Oper) (slot : Tmp → Option Sl) (pre : List Nat) (ds : List (Option Tmp)) (call : FT) (T0 : Fm) (val : Nat → AV) (i : Nat) (o : Oper) (F F' : AH) : Prop :=
  ∃ L T last h0 hf, compOp Pr (rdD pre ds i last slot) o.op = some h0 ∧ Grd pre ds i last slot ops o h0 hf ∧ LOk ops val last L ∧ TOk slot T0 last T ∧ ∀ K, hf call L T F K = K (val i) F'

theorem grd_does {a : Act} {w : World} {μ : M} (hcall : CallOk Pr call) {ds : List (Option Tmp)} {i : Nat} {o : Oper} {last : List (Nat × Option Tmp)} {L : List AV} {T : Fm} {h0 hf : HT} (hh : compOp Pr (rdD pre ds i last slot) o.op = some h0)
    (hg : Grd pre ds i last slot ops o h0 hf) (hr : Reads μ a L T (rdD pre ds i last slot)) {G G' : AH} {v : AV} (hk : ∀ K, hf call L T G K = K v G') (hR : Rel μ G w base) : DoesW Pr ops o a w (Post base μ w v G') := by
  have hs := compOp_snd (call := call) (H := G) (w := w) (base := base) hcall hh hr hR
  rcases hg with ⟨hg, rfl⟩ | ⟨g, want, t, x, hg, ht, hx, rfl⟩
  · exact ((hs.mono fun v H' hd => hd.w (ops := ops) (by simp [Region.wanted, hg])) : Det (hf call L T G) fun v H' => DoesW Pr ops o a w (Post base μ w v H')).at hk
  · exact (snd_guard2 ht hg (hr _ _ hx) hR hs).at hk

/-- one more is listed -/
theorem lis_set {listed : Array Bool} {i : Nat} (hi : i < listed.size) (j : Nat) : lis (listed.setIfInBounds i true) j ↔ j = i ∨ lis listed j := by
  unfold lis
  by_cases hij : i = j
  · subst hij; simp [hi]
  · rw [getD_set_ne false hij]
    constructor
    · exact .inr
    · rintro (rfl | h)
      · exact absurd rfl hij
      · exact h
theorem Core.next {listed : Array Bool} {a : Act} {w w' : World} {μ μ' : M} (hc : Core ops N base n a0 w0 μ0 val listed a w μ) {i : Nat} {o : Oper} (hi : i < n) (hun : ¬ lis listed i) (ho : ops[i]? = some o) (hok : dstOk N o.dst = true)
    (hsingle : ∀ j o' d, ops[j]? = some o' → o'.dst = some d → o.dst = some d → j = i) (hready : ∀ e ∈ o.after, Region.binds .any e = true → lis listed e.on) {x : Value} (hx : Ext μ μ') (hf : Fr base w w') (hv : VRel μ' (val i) x) :
    Core ops N base n a0 w0 μ0 val (listed.setIfInBounds i true) (a.put o.dst x) w' μ' := by
  have hil : i < listed.size := by rw [hc.size]; exact hi
  have hlt : ∀ d, o.dst = some d → d < a.tmps.size := fun d hd => by rw [hc.asz]; rw [hd] at hok; exact natB hok
  refine ⟨by simp [hc.size], ?_, ARel.size_put.trans hc.asz, ARel.defers_put.trans hc.adef, ?_, ?_, hc.ext.trans hx, hc.fr.trans hf⟩
  · intro j o' hj ho' e he hb
    rw [lis_set hil] at hj ⊢
    rcases hj with rfl | hj
    · rw [ho] at ho'; cases ho'
      exact .inr (hready e he hb)
    · exact .inr (hc.closed j o' hj ho' e he hb)
  · intro j o' d hj ho' hd
    rw [lis_set hil] at hj
    by_cases hod : o.dst = some d
    · have := hsingle j o' d ho' hd hod
      subst this
      rw [hod, eval_put (hlt d hod), if_pos rfl]
      exact hv
    · rcases hj with rfl | hj
      · rw [ho] at ho'; cases ho'
        exact absurd hd hod
      · have h1 := (hc.vals j o' d hj ho' hd).mono hx
        cases hdst : o.dst with
        | none => exact h1
        | some d' =>
          rw [eval_put (hlt d' hdst), if_neg]
          · exact h1
          · rintro rfl; exact hod hdst
  · intro t ht
    have h1 := hc.rest t fun j o' hj ho' => ht j o' ((lis_set hil j).2 (.inr hj)) ho'
    cases hdst : o.dst with
    | none => exact h1
    | some d' =>
      rw [eval_put (hlt d' hdst), if_neg]
      · exact h1
      · rintro rfl; exact ht i o ((lis_set hil i).2 (.inl rfl)) ho hdst
end
end
end Go.Ev
/- Regions that draw their order: the invariant, its step, its end. -/
namespace Go.Ev
noncomputable section
variable {Pr : Program}

/-- what the canonical run and the checks have shown -/
structure PF (Pr : Program) (ops : Array Oper) (slot : Tmp → Option Sl) (N n : Nat) (pre : List Nat) (ds : List (Option Tmp)) (call : FT) (T0 : Fm) (val : Nat → AV) (at_ kd : Nat → Nat) (Hp : Nat → AH) (pr : Nat → Bool) : Prop where
  opsn : ops.size = n
  hpre : PreOk ops pre
  edges : EdgesOk ops
  hds : DsOk ops ds
  perm : ∀ i, i < n → ∃ k, k < n ∧ at_ k = i
  atlt : ∀ k, k < n → at_ k < n
  inj : ∀ k k', k < n → k' < n → at_ k = at_ k' → k = k'
  hkd : ∀ (k : Nat) (o : Oper), k < n → ops[at_ k]? = some o → kindOf o.op = kd k
  kd4 : ∀ k, k < n → kd k ≤ 3
  dst : ∀ (i : Nat) (o : Oper), ops[i]? = some o → dstOk N o.dst = true
  single : ∀ (i j : Nat) (o o' : Oper) d, ops[i]? = some o → ops[j]? = some o' → o.dst = some d → o'.dst = some d → i = j
  wit : ∀ k o, k < n → ops[at_ k]? = some o → Wit Pr ops slot pre ds call T0 val (at_ k) o (Hp k) (Hp (k + 1))
  galloc : ∀ (k : Nat) (o : Oper), k < n → kd k = 2 → ops[at_ k]? = some o → o.guard = none
  c1 : ∀ q q', q < q' → q' < n → kd q = 3 → kd q' ≠ 0 → before pre (at_ q') (at_ q) = true ∨ (pr q = true ∧ q' = q + 1)
  c2 : ∀ q q' o, q < q' → q' < n → kd q = 1 → kd q' = 3 → ops[at_ q]? = some o → before pre (at_ q') (at_ q) = true ∨
    (pr q' = false ∧ (∀ k, pr k = true → q' ≠ k + 1) ∧ Wit Pr ops slot pre ds call T0 val (at_ q) o (Hp (q' + 1)) (Hp (q' + 1)))
  c3 : ∀ q q', q < q' → q' < n → kd q = 2 → kd q' = 3 → before pre (at_ q') (at_ q) = true
  pair : ∀ k, pr k = true → k + 1 < n ∧ kd k = 3 ∧ kd (k + 1) = 3 ∧ ∃ X Y, (∀ o, ops[at_ (k + 1)]? = some o → Wit Pr ops slot pre ds call T0 val (at_ (k + 1)) o (Hp k) X) ∧
    (∀ o, ops[at_ k]? = some o → Wit Pr ops slot pre ds call T0 val (at_ k) o X Y) ∧ ∀ b, Y.bl.at b = (Hp (k + 2)).bl.at b

section
variable {ops : Array Oper} {slot : Tmp → Option Sl} {N base n : Nat} {pre : List Nat} {ds : List (Option Tmp)} {call : FT} {T0 : Fm} {D0 : List Dfr} {a0 : Act} {w0 : World} {μ0 : M} {val : Nat → AV} {at_ kd : Nat → Nat} {Hp : Nat → AH} {pr : Nat → Bool}

theorem PF.oper (h : PF Pr ops slot N n pre ds call T0 val at_ kd Hp pr) {k : Nat} (hk : k < n) : ∃ o, ops[at_ k]? = some o :=
  ⟨_, Array.getElem?_eq_getElem (by rw [h.opsn]; exact h.atlt k hk)⟩
theorem Grd.pure {i : Nat} {last : List (Nat × Option Tmp)} {o : Oper} {h0 hf : HT} (hg : Grd pre ds i last slot ops o h0 hf) (hp : PureH h0) : PureH hf := by
  rcases hg with ⟨_, rfl⟩ | ⟨g, want, t, x, _, _, _, rfl⟩
  · exact hp
  · exact pure_guard hp _ _
theorem PF.keep (h : PF Pr ops slot N n pre ds call T0 val at_ kd Hp pr) {k : Nat} (hk : k < n) (hkd : kd k ≤ 1) : Hp (k + 1) = Hp k := by
  obtain ⟨o, ho⟩ := h.oper hk
  obtain ⟨L, T, last, h0, hf, hh, hg, _, _, hK⟩ := h.wit k o hk ho
  have hko := h.hkd k o hk ho
  rcases Nat.lt_or_ge 0 (kd k) with h1 | h1
  · have hk1 : kindOf o.op = 1 := by omega
    rcases hg with ⟨_, rfl⟩ | ⟨g, want, t, x, _, _, _, rfl⟩
    · exact keep_same (fun K => compOp_keep hh hk1 call L T (Hp k) K) hK
    · exact keep_same (fun K => keep_guard (fun K => compOp_keep hh hk1 call L T (Hp k) K) K) hK
  · exact ((hg.pure (compOp_pure hh (by omega))).at hK (Hp k)).2
theorem PF.alloc (h : PF Pr ops slot N n pre ds call T0 val at_ kd Hp pr) {k : Nat} (hk : k < n) (hkd : kd k = 2) : (Hp k).bl.at (Hp k).next = none ∧ ∃ B, (Hp (k + 1)).bl = (Hp k).bl.put B (Hp k).next := by
  obtain ⟨o, ho⟩ := h.oper hk
  obtain ⟨L, T, last, h0, hf, hh, hg, _, _, hK⟩ := h.wit k o hk ho
  have hko := h.hkd k o hk ho
  rcases hg with ⟨_, rfl⟩ | ⟨g, want, t, x, hgd, _⟩
  · obtain ⟨B, mk, _, h2, h3, _⟩ := (compOp_alloc (L := L) (T := T) hh (by omega) rdD_hands call).at hK
    exact ⟨h2, B, h3⟩
  · rw [h.galloc k o hk hkd ho] at hgd; cases hgd
/-- between two changes memory only grows -/
theorem PF.range (h : PF Pr ops slot N n pre ds call T0 val at_ kd Hp pr) {j : Nat} : ∀ d, j + d ≤ n → (∀ q, j ≤ q → q < j + d → kd q ≠ 3) →
    (∀ b B, (Hp j).bl.at b = some B → (Hp (j + d)).bl.at b = some B) ∧ ∀ b, (∀ q, j ≤ q → q < j + d → kd q = 2 → b ≠ (Hp q).next) → (Hp (j + d)).bl.at b = (Hp j).bl.at b
  | 0, _, _ => ⟨fun _ _ h => h, fun _ _ => rfl⟩
  | d + 1, hd, hno => by
    obtain ⟨i1, i2⟩ := h.range d (by omega) fun q h1 h2 => hno q h1 (by omega)
    have hlt : j + d < n := by omega
    have h3 := hno (j + d) (by omega) (by omega)
    have h4 := h.kd4 (j + d) hlt
    rcases Nat.lt_or_ge 1 (kd (j + d)) with hk | hk
    · have hk2 : kd (j + d) = 2 := by omega
      obtain ⟨a1, B0, a2⟩ := h.alloc hlt hk2
      refine ⟨fun b B hb => ?_, fun b hb => ?_⟩
      · have := i1 b B hb
        show (Hp (j + d + 1)).bl.at b = some B
        rw [a2, _root_.Go.Ev.Hp.at_put, if_neg]
        · exact this
        · rintro rfl; rw [a1] at this; cases this
      · show (Hp (j + d + 1)).bl.at b = _
        rw [a2, _root_.Go.Ev.Hp.at_put, if_neg (hb (j + d) (by omega) (by omega) hk2)]
        exact i2 b fun q h1 h2 => hb q h1 (by omega)
    · show (∀ b B, _ → (Hp (j + d + 1)).bl.at b = some B) ∧ ∀ b, _ → (Hp (j + d + 1)).bl.at b = _
      rw [h.keep hlt hk]
      exact ⟨i1, fun b hb => i2 b fun q h1 h2 => hb q h1 (by omega)⟩
theorem PF.range' (h : PF Pr ops slot N n pre ds call T0 val at_ kd Hp pr) {j k : Nat} (hjk : j ≤ k) (hk : k ≤ n) (hno : ∀ q, j ≤ q → q < k → kd q ≠ 3) :
    (∀ b B, (Hp j).bl.at b = some B → (Hp k).bl.at b = some B) ∧ ∀ b, (∀ q, j ≤ q → q < k → kd q = 2 → b ≠ (Hp q).next) → (Hp k).bl.at b = (Hp j).bl.at b := by
  have := h.range (j := j) (k - j) (by omega) fun q h1 h2 => hno q h1 (by omega)
  rw [show j + (k - j) = k by omega] at this
  exact this

def Whole (n : Nat) (at_ kd : Nat → Nat) (listed : Array Bool) (k : Nat) : Prop := k ≤ n ∧ (k < n → kd k = 3) ∧ ∀ q, q < n → kd q = 3 → (lis listed (at_ q) ↔ q < k)
structure GS (at_ kd : Nat → Nat) (Hp : Nat → AH) (listed : Array Bool) (k : Nat) (G : AH) : Prop where
  g1 : ∀ b B, G.bl.at b = some B → (Hp k).bl.at b = some B
  g2 : ∀ b, (∀ q, q < k → kd q = 2 → ¬ lis listed (at_ q) → b ≠ (Hp q).next) → G.bl.at b = (Hp k).bl.at b
  g3 : ∀ q, q < k → kd q = 2 → ¬ lis listed (at_ q) → G.bl.at (Hp q).next = none
/-- of a pair, the second has been done and the first not -/
structure Rev (Pr : Program) (ops : Array Oper) (slot : Tmp → Option Sl) (n : Nat) (pre : List Nat) (ds : List (Option Tmp)) (call : FT) (T0 : Fm) (val : Nat → AV) (at_ kd : Nat → Nat) (Hp : Nat → AH) (pr : Nat → Bool) (listed : Array Bool) (k : Nat) (G : AH) : Prop where
  hpr : pr k = true
  eff : ∀ q, q < n → kd q = 3 → (lis listed (at_ q) ↔ q < k ∨ q = k + 1)
  a1 : ∀ q, q < k → kd q = 2 → lis listed (at_ q)
  a2 : ∀ q, k < q → q < n → kd q = 2 → ¬ lis listed (at_ q)
  ex : ∃ X Y, (∀ o, ops[at_ k]? = some o → Wit Pr ops slot pre ds call T0 val (at_ k) o X Y) ∧ (∀ b, Y.bl.at b = (Hp (k + 2)).bl.at b) ∧ ∀ b, G.bl.at b = X.bl.at b
def Inv (Pr : Program) (ops : Array Oper) (slot : Tmp → Option Sl) (N base n : Nat) (pre : List Nat) (ds : List (Option Tmp)) (call : FT) (T0 : Fm) (a0 : Act) (w0 : World) (μ0 : M) (val : Nat → AV) (at_ kd : Nat → Nat) (Hp : Nat → AH) (pr : Nat → Bool) (listed : Array Bool) (a : Act) (w : World) : Prop :=
  ∃ μ G, Core ops N base n a0 w0 μ0 val listed a w μ ∧ Rel μ G w base ∧ ((∃ k, Whole n at_ kd listed k ∧ GS at_ kd Hp listed k G) ∨ ∃ k, Rev Pr ops slot n pre ds call T0 val at_ kd Hp pr listed k G)

theorem nextEff (n : Nat) (kd : Nat → Nat) : ∀ d j, j + d = n → ∃ k, j ≤ k ∧ k ≤ n ∧ (k < n → kd k = 3) ∧ ∀ q, j ≤ q → q < k → kd q ≠ 3
  | 0, j, h => ⟨j, Nat.le_refl _, by omega, fun hlt => by omega, fun q h1 h2 => by omega⟩
  | d + 1, j, h => by
    by_cases hk : kd j = 3
    · exact ⟨j, Nat.le_refl _, by omega, fun _ => hk, fun q h1 h2 => by omega⟩
    · obtain ⟨k, h1, h2, h3, h4⟩ := nextEff n kd d (j + 1) (by omega)
      refine ⟨k, by omega, h2, h3, fun q q1 q2 => ?_⟩
      by_cases hq : q = j
      · subst hq; exact hk
      · exact h4 q (by omega) q2
theorem lastEff (kd : Nat → Nat) (p : Nat) : ∀ k, (∀ q, p < q → q < k → kd q ≠ 3) ∨ ∃ q, p < q ∧ q < k ∧ kd q = 3 ∧ ∀ q', q < q' → q' < k → kd q' ≠ 3
  | 0 => .inl fun q _ h => by omega
  | k + 1 => by
    by_cases hk : kd k = 3 ∧ p < k
    · exact .inr ⟨k, hk.2, by omega, hk.1, fun q' h1 h2 => by omega⟩
    · rcases lastEff kd p k with h | ⟨q, h1, h2, h3, h4⟩
      · refine .inl fun q q1 q2 => ?_
        by_cases hq : q = k
        · subst hq; exact fun h3 => hk ⟨h3, q1⟩
        · exact h q q1 (by omega)
      · refine .inr ⟨q, h1, by omega, h3, fun q' q1 q2 => ?_⟩
        by_cases hq : q' = k
        · subst hq; exact fun h5 => hk ⟨h5, by omega⟩
        · exact h4 q' q1 (by omega)

/-- a stage begins -/
theorem PF.enter (h : PF Pr ops slot N n pre ds call T0 val at_ kd Hp pr) {listed : Array Bool} {j : Nat} (hj : j ≤ n) (hE : ∀ q, q < n → kd q = 3 → (lis listed (at_ q) ↔ q < j)) (hA : ∀ q, q < j → kd q = 2 → lis listed (at_ q))
    (hU : ∀ q, j ≤ q → q < n → kd q = 2 → ¬ lis listed (at_ q)) {G : AH} (hG : ∀ b, G.bl.at b = (Hp j).bl.at b) : ∃ k, Whole n at_ kd listed k ∧ GS at_ kd Hp listed k G := by
  obtain ⟨k, h1, h2, h3, h4⟩ := nextEff n kd (n - j) j (by omega)
  obtain ⟨r1, r2⟩ := h.range' h1 h2 h4
  refine ⟨k, ⟨h2, h3, fun q hq hk => (hE q hq hk).trans ⟨fun hlt => by omega, fun hlt => ?_⟩⟩, ⟨fun b B hb => r1 b B (by rw [← hG]; exact hb), fun b hb => ?_, fun q hq hk hun => ?_⟩⟩
  · rcases Nat.lt_or_ge q j with h5 | h5
    · exact h5
    · exact absurd hk (h4 q h5 hlt)
  · rw [hG]
    exact (r2 b fun q q1 q2 q3 => hb q q2 q3 (hU q q1 (by omega) q3)).symm
  · rw [hG]
    have hjq : j ≤ q := by
      rcases Nat.lt_or_ge q j with h5 | h5
      · exact absurd (hA q h5 hk) hun
      · exact h5
    cases hb : (Hp j).bl.at (Hp q).next with
    | none => rfl
    | some B =>
      obtain ⟨s1, _⟩ := h.range' hjq (by omega) fun q' q1 q2 => h4 q' q1 (by omega)
      have := s1 _ _ hb
      rw [(h.alloc (by omega) hk).1] at this
      cases this

theorem DoesW.mono {o : Oper} {a : Act} {w : World} {R R' : Value → World → Prop} (h : DoesW Pr ops o a w R) (hr : ∀ v w', R v w' → R' v w') : DoesW Pr ops o a w R' := fun next Q hn => h next Q fun v w' hv => hn v w' (hr v w' hv)

theorem Inv.step (h : PF Pr ops slot N n pre ds call T0 val at_ kd Hp pr) (hcall : CallOk Pr call) (h0 : ARel μ0 slot N T0 D0 a0) {listed : Array Bool} {a : Act} {w : World}
    (hI : Inv Pr ops slot N base n pre ds call T0 a0 w0 μ0 val at_ kd Hp pr listed a w) {i : Nat} {o : Oper} (hun : ¬ lis listed i) (ho : ops[i]? = some o) (hready : ∀ e ∈ o.after, Region.binds .any e = true → lis listed e.on) :
    DoesW Pr ops o a w fun x w' => Inv Pr ops slot N base n pre ds call T0 a0 w0 μ0 val at_ kd Hp pr (listed.setIfInBounds i true) (a.put o.dst x) w' := by
  obtain ⟨μ, G, hc, hR, hcfg⟩ := hI
  have hin : i < n := by rw [← h.opsn]; exact (Array.getElem?_eq_some_iff.1 ho).1
  have hil : i < listed.size := by rw [hc.size]; exact hin
  obtain ⟨p, hp, rfl⟩ := h.perm i hin
  have hkp := h.hkd p o hp ho
  have hready' : ∀ o', ops[at_ p]? = some o' → ∀ e ∈ o'.after, Region.binds .any e = true → lis listed e.on := fun o' ho' => by rw [ho] at ho'; cases ho'; exact hready
  have hbef : ∀ j, before pre (at_ p) j = true → lis listed j := fun j hb => hc.closed.before h.hpre _ j hb hready'
  have hbef' : ∀ {i j : Nat}, before pre i j = true → lis listed i → lis listed j := fun hb hi => hc.closed.before' h.hpre hb hi
  have hreads : ∀ {last L T}, LOk ops val last L → TOk slot T0 last T → Reads μ a L T (rdD pre ds (at_ p) last slot) := fun hL hT => hc.reads h.hpre h.hds h0 hun hready' hL hT
  have hlisp : lis (listed.setIfInBounds (at_ p) true) (at_ p) := (lis_set hil _).2 (.inl rfl)
  have hlis : ∀ q, q < n → q ≠ p → (lis (listed.setIfInBounds (at_ p) true) (at_ q) ↔ lis listed (at_ q)) := fun q hq hqp => by
    rw [lis_set hil]
    exact ⟨fun hh => hh.resolve_left fun e => hqp (h.inj q p hq hp e), .inr⟩
  -- what is known behind the operation
  have fin : ∀ {G' : AH} {x : Value} {w' : World}, Post base μ w (val (at_ p)) G' x w' →
      (∃ G'', (∀ b, G''.bl.at b = G'.bl.at b) ∧ ((∃ k, Whole n at_ kd (listed.setIfInBounds (at_ p) true) k ∧ GS at_ kd Hp (listed.setIfInBounds (at_ p) true) k G'') ∨ ∃ k, Rev Pr ops slot n pre ds call T0 val at_ kd Hp pr (listed.setIfInBounds (at_ p) true) k G'')) →
      Inv Pr ops slot N base n pre ds call T0 a0 w0 μ0 val at_ kd Hp pr (listed.setIfInBounds (at_ p) true) (a.put o.dst x) w' := by
    intro G' x w' hpost hcf
    obtain ⟨μ', hx, hR', hF, hv⟩ := hpost
    obtain ⟨G'', hG, hcf⟩ := hcf
    refine ⟨μ', G'', hc.next hin hun ho (h.dst _ _ ho) ?_ hready hx hF hv, hR'.heap_congr fun b g e _ => hG b, hcf⟩
    intro j o' d ho' h1 h2
    exact h.single j (at_ p) o' o d ho' ho h1 h2
  -- nothing that matters has changed
  have same : kd p ≠ 3 → kd p ≠ 2 → (∃ k, Whole n at_ kd (listed.setIfInBounds (at_ p) true) k ∧ GS at_ kd Hp (listed.setIfInBounds (at_ p) true) k G) ∨ ∃ k, Rev Pr ops slot n pre ds call T0 val at_ kd Hp pr (listed.setIfInBounds (at_ p) true) k G := by
    intro hk3 hk2
    have hl : ∀ q, q < n → (kd q = 3 ∨ kd q = 2) → (lis (listed.setIfInBounds (at_ p) true) (at_ q) ↔ lis listed (at_ q)) := fun q hq hk => hlis q hq (by rintro rfl; rcases hk with hk | hk <;> contradiction)
    rcases hcfg with ⟨k, ⟨w1, w2, w3⟩, hgs⟩ | ⟨k, hrev⟩
    · refine .inl ⟨k, ⟨w1, w2, fun q hq hk => (hl q hq (.inl hk)).trans (w3 q hq hk)⟩, ⟨hgs.g1, fun b hb => hgs.g2 b fun q h1 h2 h3 => hb q h1 h2 fun h4 => h3 ((hl q (by omega) (.inr h2)).1 h4), fun q h1 h2 h3 => hgs.g3 q h1 h2 fun h4 => h3 ((hl q (by omega) (.inr h2)).2 h4)⟩⟩
    · have hkn := (h.pair k hrev.hpr).1
      exact .inr ⟨k, ⟨hrev.hpr, fun q hq hk => (hl q hq (.inl hk)).trans (hrev.eff q hq hk), fun q h1 h2 => (hl q (by omega) (.inr h2)).2 (hrev.a1 q h1 h2), fun q h1 h2 h3 h4 => hrev.a2 q h1 h2 h3 ((hl q h2 (.inr h3)).1 h4), hrev.ex⟩⟩
  -- where an operation that is not pure may stand
  have early : ∀ k, Whole n at_ kd listed k → kd p ≠ 0 → kd p ≠ 3 → p < k := by
    intro k hw h1 h3
    obtain ⟨w1, w2, w3⟩ := hw
    rcases Nat.lt_or_ge p k with hlt | hge
    · exact hlt
    · exfalso
      rcases Nat.lt_or_ge k n with hkn | hkn
      · have hk3 := w2 hkn
        have hne : k ≠ p := by rintro rfl; exact h3 hk3
        rcases h.c1 k p (by omega) hp hk3 h1 with hb | ⟨hb, hb2⟩
        · exact absurd ((w3 k hkn hk3).1 (hbef _ hb)) (by omega)
        · subst hb2
          exact h3 (h.pair k hb).2.2.1
      · omega
  have noRev : ∀ k, Rev Pr ops slot n pre ds call T0 val at_ kd Hp pr listed k G → kd p ≠ 0 → kd p ≠ 3 → False := by
    intro k hrev h1 h3
    obtain ⟨k1, k2, k3, _⟩ := h.pair k hrev.hpr
    have hkl : ¬ lis listed (at_ k) := fun hh => by have := (hrev.eff k (by omega) k2).1 hh; omega
    have hkl1 : lis listed (at_ (k + 1)) := (hrev.eff (k + 1) k1 k3).2 (.inr rfl)
    rcases Nat.lt_or_ge k p with hlt | hge
    · rcases h.c1 k p hlt hp k2 h1 with hb | ⟨_, hb2⟩
      · exact hkl (hbef _ hb)
      · subst hb2; exact h3 k3
    · have hne : p ≠ k := by rintro rfl; exact h3 k2
      have hplt : p < k + 1 := by omega
      have h4 := h.kd4 p hp
      rcases Nat.lt_or_ge (kd p) 2 with h5 | h5
      · rcases h.c2 p (k + 1) o hplt k1 (by omega) k3 ho with hb | ⟨_, hb, _⟩
        · exact hun (hbef' hb hkl1)
        · exact hb k hrev.hpr rfl
      · exact hun (hbef' (h.c3 p (k + 1) hplt k1 (by omega) k3) hkl1)
  have h4 := h.kd4 p hp
  obtain ⟨L, T, last, hh0, hf, hh, hg, hL, hT, hK⟩ := h.wit p o hp ho
  rcases Nat.lt_or_ge (kd p) 1 with hk0 | hk1
  · -- pure
    have hpure := hg.pure (compOp_pure hh (by omega))
    exact (grd_does hcall hh hg (hreads hL hT) (hpure.at hK G).1 hR).mono fun x w' hpost => fin hpost ⟨G, fun _ => rfl, same (by omega) (by omega)⟩
  rcases Nat.lt_or_ge (kd p) 2 with hk | hk2
  · -- reading
    have hk1 : kd p = 1 := by omega
    rcases hcfg with ⟨k, hw, hgs⟩ | ⟨k, hrev⟩
    case inr => exact (noRev k hrev (by omega) (by omega)).elim
    have hpk := early k hw (by omega) (by omega)
    have hkn := hw.1
    -- the memory where it was looked at last
    have hwit : ∃ j, j ≤ k ∧ Wit Pr ops slot pre ds call T0 val (at_ p) o (Hp j) (Hp j) ∧ ∀ q, j ≤ q → q < k → kd q ≠ 3 := by
      rcases lastEff kd p k with hno | ⟨q, q1, q2, q3, q4⟩
      · refine ⟨p, by omega, ?_, fun q q1 q2 => ?_⟩
        · have := h.wit p o hp ho
          rwa [h.keep hp (by omega)] at this
        · by_cases hq : q = p
          · subst hq; omega
          · exact hno q (by omega) q2
      · refine ⟨q + 1, by omega, ?_, fun q' h1 h2 => q4 q' (by omega) h2⟩
        rcases h.c2 p q o q1 (by omega) hk1 q3 ho with hb | ⟨_, _, hb⟩
        · exact absurd (hbef' hb ((hw.2.2 q (by omega) q3).2 q2)) hun
        · exact hb
    obtain ⟨j, hjk, ⟨L', T', last', h0', hf', hh', hg', hL', hT', hK'⟩, hno⟩ := hwit
    have hcov : Covers μ (Hp j) G := fun b B g e hb he => by
      obtain ⟨B', cs, t, hB', _⟩ := (hR.ent b g e he).ex
      have h1 := hgs.g1 b B' hB'
      rw [(h.range' hjk hkn hno).1 b B hb] at h1
      cases h1; exact hB'
    have hrd := hreads hL' hT'
    have hra : ReadsAt μ (hf' call L' T' (Hp j)) (hf' call L' T' G) (Hp j) G := by
      have := compOp_reads hh' (by omega) hrd hcov call
      rcases hg' with ⟨_, rfl⟩ | ⟨g, want, t, x, _, _, hx, rfl⟩
      · exact this
      · exact guard_at (hrd _ _ hx) this
    exact (grd_does hcall hh' hg' hrd (hra _ _ hK').1 hR).mono fun x w' hpost => fin hpost ⟨G, fun _ => rfl, same (by omega) (by omega)⟩
  rcases Nat.lt_or_ge (kd p) 3 with hk | hk3
  · -- new memory
    have hkp2 : kd p = 2 := by omega
    rcases hcfg with ⟨k, hw, hgs⟩ | ⟨k, hrev⟩
    case inr => exact (noRev k hrev (by omega) (by omega)).elim
    have hpk := early k hw (by omega) (by omega)
    have hkn := hw.1
    have noeff : ∀ q', q' < k → kd q' = 2 → ¬ lis listed (at_ q') → ∀ q, q' ≤ q → q < k → kd q ≠ 3 := by
      intro q' h1 h2 h3 q h5 h6 h7
      have hne : q' ≠ q := by rintro rfl; omega
      exact h3 (hbef' (h.c3 q' q (by omega) (by omega) h2 h7) ((hw.2.2 q (by omega) h7).2 h6))
    have hgn := h.galloc p o hp hkp2 ho
    rcases hg with ⟨_, rfl⟩ | ⟨g, want, t, x, hgd, _⟩
    case inr => rw [hgn] at hgd; cases hgd
    obtain ⟨B, mk, e1, e2, e3, e4⟩ := (compOp_alloc (L := L) (T := T) hh (by omega) rdD_hands call).at hK
    obtain ⟨G', g1, g2⟩ := e4 ⟨(Hp p).next, G.bl⟩ rfl (hgs.g3 p hpk hkp2 hun)
    have hR0 : Rel μ ⟨(Hp p).next, G.bl⟩ w base := hR.heap_congr fun _ _ _ _ => rfl
    refine (grd_does hcall hh (.inl ⟨hgn, rfl⟩) (hreads hL hT) g1 hR0).mono fun x w' hpost => fin hpost ⟨G', fun _ => rfl, .inl ⟨k, ?_, ?_⟩⟩
    · exact ⟨hw.1, hw.2.1, fun q hq hk3 => (hlis q hq (by rintro rfl; omega)).trans (hw.2.2 q hq hk3)⟩
    · have hat : ∀ b, G'.bl.at b = if b = (Hp p).next then some B else G.bl.at b := fun b => by rw [g2]; exact _root_.Go.Ev.Hp.at_put _ _ _ _
      have hold := (h.range' (j := p + 1) (k := k) (by omega) hkn fun q h1 h2 => noeff p hpk hkp2 hun q (by omega) h2).1
      have hin' : (Hp k).bl.at (Hp p).next = some B := hold _ _ (by rw [e3, _root_.Go.Ev.Hp.at_put, if_pos rfl])
      refine ⟨fun b B' hb => ?_, fun b hb => ?_, fun q h1 h2 h3 => ?_⟩
      · rw [hat] at hb
        split at hb
        · rename_i hbp; cases hb; rw [hbp]; exact hin'
        · exact hgs.g1 b B' hb
      · rw [hat]
        split
        · rename_i hbp; rw [hbp]; exact hin'.symm
        · rename_i hbp
          refine hgs.g2 b fun q h1 h2 h3 => ?_
          by_cases hqp : q = p
          · subst hqp; exact hbp
          · exact hb q h1 h2 fun h5 => h3 ((hlis q (by omega) hqp).1 h5)
      · have hqp : q ≠ p := by rintro rfl; exact h3 hlisp
        have h3' : ¬ lis listed (at_ q) := fun h5 => h3 ((hlis q (by omega) hqp).2 h5)
        rw [hat, if_neg]
        · exact hgs.g3 q h1 h2 h3'
        · intro heq
          rcases Nat.lt_or_ge q p with hlt | hge
          · obtain ⟨a1, B0, a2⟩ := h.alloc (k := q) (by omega) h2
            have := (h.range' (j := q + 1) (k := p) (by omega) (by omega) fun q' h5 h6 => noeff q h1 h2 h3' q' (by omega) (by omega)).1 (Hp q).next B0 (by rw [a2, _root_.Go.Ev.Hp.at_put, if_pos rfl])
            rw [heq, e2] at this; cases this
          · have := (h.range' (j := p + 1) (k := q) (by omega) (by omega) fun q' h5 h6 => noeff p hpk hkp2 hun q' (by omega) (by omega)).1 (Hp p).next B (by rw [e3, _root_.Go.Ev.Hp.at_put, if_pos rfl])
            rw [← heq, (h.alloc (k := q) (by omega) h2).1] at this; cases this
  -- a change
  have hkp3 : kd p = 3 := by omega
  rcases hcfg with ⟨k, hw, hgs⟩ | ⟨k, hrev⟩
  · have hall : ∀ q, q < k → kd q = 2 → q < p → lis listed (at_ q) := fun q h1 h2 h3 => hbef _ (h.c3 q p h3 hp h2 hkp3)
    have hkp' : k ≤ p := by
      rcases Nat.lt_or_ge p k with hlt | hge
      · exact absurd ((hw.2.2 p hp hkp3).2 hlt) hun
      · exact hge
    have hkn : k < n := by omega
    have hk3' := hw.2.1 hkn
    have hGk : ∀ b, G.bl.at b = (Hp k).bl.at b := fun b => hgs.g2 b fun q h1 h2 h3 => absurd (hall q h1 h2 (by omega)) h3
    have hRk : Rel μ (Hp k) w base := hR.heap_congr fun b _ _ _ => (hGk b).symm
    have hpos : p = k ∨ (pr k = true ∧ p = k + 1) := by
      rcases Nat.lt_or_ge k p with hlt | hge
      · rcases h.c1 k p hlt hp hk3' (by omega) with hb | hb
        · exact absurd ((hw.2.2 k hkn hk3').1 (hbef _ hb)) (by omega)
        · exact .inr hb
      · exact .inl (by omega)
    have later : ∀ q, p < q → q < n → kd q = 2 → ¬ lis listed (at_ q) := fun q h1 h2 h3 h5 => by
      rcases h.c1 p q h1 h2 hkp3 (by omega) with hb | ⟨hb, hb2⟩
      · exact hun (hbef' hb h5)
      · subst hb2; have := (h.pair p hb).2.2.1; omega
    rcases hpos with rfl | ⟨hpr, rfl⟩
    · refine (grd_does hcall hh hg (hreads hL hT) hK hRk).mono fun x w' hpost => fin hpost ⟨Hp (p + 1), fun _ => rfl, .inl ?_⟩
      refine h.enter (j := p + 1) (by omega) (fun q hq hk => ?_) (fun q h1 h2 => ?_) (fun q h1 h2 h3 h5 => ?_) fun _ => rfl
      · by_cases hqp : q = p
        · subst hqp; exact ⟨fun _ => by omega, fun _ => hlisp⟩
        · rw [hlis q hq hqp, hw.2.2 q hq hk]; omega
      · have hqp : q ≠ p := by rintro rfl; omega
        exact (hlis q (by omega) hqp).2 (hall q (by omega) h2 (by omega))
      · exact later q (by omega) h2 h3 ((hlis q h2 (by omega)).1 h5)
    · obtain ⟨k1, k2, k3, X, Y, hX, hY, hXY⟩ := h.pair k hpr
      obtain ⟨L', T', last', h0', hf', hh', hg', hL', hT', hK'⟩ := hX o ho
      refine (grd_does hcall hh' hg' (hreads hL' hT') hK' hRk).mono fun x w' hpost => fin hpost ⟨X, fun _ => rfl, .inr ⟨k, hpr, fun q hq hk => ?_, fun q h1 h2 => ?_, fun q h1 h2 h3 h5 => ?_, X, Y, hY, hXY, fun _ => rfl⟩⟩
      · by_cases hqp : q = k + 1
        · subst hqp; exact ⟨fun _ => .inr rfl, fun _ => hlisp⟩
        · rw [hlis q hq hqp, hw.2.2 q hq hk]; omega
      · exact (hlis q (by omega) (by omega)).2 (hall q h1 h2 (by omega))
      · have hqp : q ≠ k + 1 := by rintro rfl; omega
        exact later q (by omega) h2 h3 ((hlis q h2 hqp).1 h5)
  · obtain ⟨k1, k2, k3, _⟩ := h.pair k hrev.hpr
    obtain ⟨X, Y, hY, hXY, hGX⟩ := hrev.ex
    have hkl : ¬ lis listed (at_ k) := fun hh => by have := (hrev.eff k (by omega) k2).1 hh; omega
    have hpos : p = k := by
      have hn : ¬ (p < k ∨ p = k + 1) := fun hh => hun ((hrev.eff p hp hkp3).2 hh)
      rcases Nat.lt_or_ge k p with hlt | hge
      · rcases h.c1 k p hlt hp k2 (by omega) with hb | hb
        · exact absurd (hbef _ hb) hkl
        · omega
      · omega
    subst hpos
    obtain ⟨L', T', last', h0', hf', hh', hg', hL', hT', hK'⟩ := hY o ho
    have hRX : Rel μ X w base := hR.heap_congr fun b _ _ _ => (hGX b).symm
    refine (grd_does hcall hh' hg' (hreads hL' hT') hK' hRX).mono fun x w' hpost => fin hpost ⟨Y, fun _ => rfl, .inl ?_⟩
    refine h.enter (j := p + 2) (by omega) (fun q hq hk => ?_) (fun q h1 h2 => ?_) (fun q h1 h2 h3 h5 => ?_) hXY
    · by_cases hqp : q = p
      · subst hqp; exact ⟨fun _ => by omega, fun _ => hlisp⟩
      · rw [hlis q hq hqp, hrev.eff q hq hk]; omega
    · have hqp : q ≠ p := by rintro rfl; omega
      have hqp1 : q ≠ p + 1 := by rintro rfl; omega
      exact (hlis q (by omega) hqp).2 (hrev.a1 q (by omega) h2)
    · exact hrev.a2 q (by omega) h2 h3 ((hlis q h2 (by omega)).1 h5)
end
end
end Go.Ev
/- Regions that draw their order: the theorem. -/
namespace Go.Ev
noncomputable section
variable {Pr : Program}

def cntT : List Bool → Nat
  | [] => 0
  | true :: l => cntT l + 1
  | false :: l => cntT l
theorem cntT_le : ∀ l : List Bool, cntT l ≤ l.length
  | [] => Nat.le_refl _
  | true :: l => by have := cntT_le l; simp [cntT]; omega
  | false :: l => by have := cntT_le l; simp [cntT]; omega
theorem cntT_all : ∀ l : List Bool, cntT l = l.length → ∀ i, i < l.length → l[i]? = some true
  | [], _, i, hi => by simp at hi
  | true :: l, h, i, hi => by
    cases i with
    | zero => rfl
    | succ i => simpa using cntT_all l (by simp [cntT] at h; exact h) i (by simpa using hi)
  | false :: l, h, i, hi => by have := cntT_le l; simp [cntT] at h; omega
theorem cntT_set : ∀ (l : List Bool) (i : Nat), l[i]? = some false → cntT (l.set i true) = cntT l + 1
  | [], i, h => by simp at h
  | b :: l, 0, h => by simp at h; subst h; rfl
  | true :: l, i + 1, h => by have := cntT_set l i (by simpa using h); simp [cntT, this]
  | false :: l, i + 1, h => by have := cntT_set l i (by simpa using h); simp [cntT, this]
theorem cntT_rep : ∀ n, cntT (List.replicate n false) = 0
  | 0 => rfl
  | n + 1 => by rw [List.replicate_succ]; exact cntT_rep n

section
variable {ops : Array Oper} {slot : Tmp → Option Sl} {N base n : Nat} {pre : List Nat} {ds : List (Option Tmp)} {call : FT} {T0 : Fm} {D0 : List Dfr} {a0 : Act} {w0 : World} {μ0 : M} {val : Nat → AV} {at_ kd : Nat → Nat} {Hp : Nat → AH} {pr : Nat → Bool}

theorem lis_of_getD {listed : Array Bool} {i : Nat} (h : listed.getD i true = false) : ¬ lis listed i := by
  unfold lis
  intro hh
  rw [Array.getD_eq_getD_getElem?] at h hh
  cases hx : listed[i]? with
  | none => rw [hx] at h; cases h
  | some b => rw [hx] at h hh; simp at h hh; rw [h] at hh; cases hh
theorem DoesW.op {o : Oper} {a : Act} {w : World} {R : Act → World → Prop} {i : Nat} (hi : ops[i]? = some o) {Q : Exit → Act → World → Prop} (h : DoesW Pr ops o a w fun x w' => R (a.put o.dst x) w') : wpOp Pr ops Q i R a w := by
  unfold wpOp
  simp only [hi]
  have := h R Q fun _ _ hr => hr
  split
  · rename_i hw; rw [if_pos hw] at this; exact .inl this
  · rename_i hw; rw [if_neg hw] at this; exact this
theorem any_wp (h : PF Pr ops slot N n pre ds call T0 val at_ kd Hp pr) (hcall : CallOk Pr call) (h0 : ARel μ0 slot N T0 D0 a0) {Q : Exit → Act → World → Prop}
    (fin : ∀ listed a w, Inv Pr ops slot N base n pre ds call T0 a0 w0 μ0 val at_ kd Hp pr listed a w → (∀ i, i < n → lis listed i) → Q .normal a w) :
    ∀ (fuel : Nat) (listed : Array Bool) (a : Act) (w : World), Inv Pr ops slot N base n pre ds call T0 a0 w0 μ0 val at_ kd Hp pr listed a w → cntT listed.toList + fuel = n → wpAny Pr .any ops Q fuel listed a w := by
  have stop : ∀ listed a w, Inv Pr ops slot N base n pre ds call T0 a0 w0 μ0 val at_ kd Hp pr listed a w → Region.ready .any ops listed = [] → Q .normal a w := by
    intro listed a w hI hr
    refine fin listed a w hI fun i => ?_
    obtain ⟨μ, G, hc, _⟩ := hI
    induction i using Nat.strongRecOn with
    | _ i ih =>
      intro hi
      have hlt : i < ops.size := by rw [h.opsn]; exact hi
      have hil : i < listed.size := by rw [hc.size]; exact hi
      cases hb : listed.getD i true with
      | true =>
        unfold lis
        rw [Array.getD_eq_getD_getElem?] at hb ⊢
        rw [Array.getElem?_eq_getElem hil] at hb ⊢
        simpa using hb
      | false =>
        exfalso
        have : i ∈ Region.ready .any ops listed := mem_ready.2 ⟨hb, _, Array.getElem?_eq_getElem hlt, fun e he hbind => by
          have := h.edges i _ (Array.getElem?_eq_getElem hlt) e he hbind
          exact ih e.on this (by omega)⟩
        rw [hr] at this
        cases this
  intro fuel
  induction fuel with
  | zero =>
    intro listed a w hI hcnt
    have hr : Region.ready .any ops listed = [] := by
      obtain ⟨μ, G, hc, _⟩ := hI
      cases hr : Region.ready .any ops listed with
      | nil => rfl
      | cons j js =>
        obtain ⟨h1, o, ho, _⟩ := mem_ready.1 (hr ▸ List.mem_cons_self .. : j ∈ Region.ready .any ops listed)
        have hj : j < listed.toList.length := by rw [Array.length_toList, hc.size, ← h.opsn]; exact (Array.getElem?_eq_some_iff.1 ho).1
        have := cntT_all listed.toList (by rw [Array.length_toList, hc.size]; omega) j hj
        rw [Array.getElem?_toList] at this
        rw [Array.getD_eq_getD_getElem?, this] at h1
        cases h1
    exact ⟨hr, stop listed a w hI hr⟩
  | succ fuel ih =>
    intro listed a w hI hcnt
    refine ⟨stop listed a w hI, fun i hi => ?_⟩
    obtain ⟨h1, o, ho, h2⟩ := mem_ready.1 hi
    refine wpOp_mono (fun a' w' hI' => ih _ a' w' hI' ?_) (DoesW.op ho (hI.step h hcall h0 (lis_of_getD h1) ho h2))
    have hil : i < listed.size := by
      obtain ⟨μ, G, hc, _⟩ := hI
      rw [hc.size, ← h.opsn]; exact (Array.getElem?_eq_some_iff.1 ho).1
    have : listed.toList[i]? = some false := by
      rw [Array.getElem?_toList, Array.getElem?_eq_getElem hil]
      rw [Array.getD_eq_getD_getElem?, Array.getElem?_eq_getElem hil] at h1
      simpa using h1
    rw [Array.toList_setIfInBounds, cntT_set _ _ this]
    omega

theorem draw_wp (h : PF Pr ops slot N n pre ds call T0 val at_ kd Hp pr) (hcall : CallOk Pr call) (hm : Pr.follows .mixedOrders = true) {μ : M} {a : Act} {w : World} (h0 : ARel μ slot N T0 D0 a) (hR : Rel μ (Hp 0) w base) {Tend : Fm}
    (hend : ∀ t p, slot t = some p → (∀ (i : Nat) (o : Oper), ops[i]? = some o → o.dst = some t → Tend.at p = some (val i)) ∧ ((∀ (i : Nat) (o : Oper), ops[i]? = some o → o.dst ≠ some t) → Tend.at p = T0.at p))
    {Q : Exit → Act → World → Prop} (ho : OutPost base N slot μ w Q (.nrm Tend D0 (Hp n))) (id : Nat) : (Code.region id ops true).wp Pr Q a w := by
  refine wp_region_any hm ?_
  have hno : ∀ i, ¬ lis (Array.replicate ops.size false) i := fun i hi => by
    unfold lis at hi; rw [Array.getD_eq_getD_getElem?, Array.getElem?_replicate] at hi; split at hi <;> simp at hi
  have hfr : Fr base w { w with drawn := w.drawn + 1 } := ⟨fun _ _ => rfl, rfl, rfl, fun _ => rfl⟩
  refine any_wp (base := base) (w0 := w) (μ0 := μ) h hcall h0 (fun listed a' w' hI hall => ?_) ops.size _ a _ ⟨μ, Hp 0, ⟨by simp [h.opsn], fun i o hi => absurd hi (hno i), h0.size, rfl, fun i o d hi => absurd hi (hno i), fun _ _ => rfl, Ext.refl μ, hfr⟩, ?_, .inl ?_⟩ ?_
  · obtain ⟨μ', G, hc, hR', hcfg⟩ := hI
    have hG : ∀ b, G.bl.at b = (Hp n).bl.at b := by
      rcases hcfg with ⟨k, hw, hgs⟩ | ⟨k, hrev⟩
      · have hk : k = n := by
          rcases Nat.lt_or_ge k n with hlt | hge
          · have := (hw.2.2 k hlt (hw.2.1 hlt)).1 (hall _ (h.atlt k hlt)); omega
          · exact Nat.le_antisymm hw.1 hge
        subst hk
        exact fun b => hgs.g2 b fun q h1 h2 h3 => absurd (hall _ (h.atlt q h1)) h3
      · obtain ⟨k1, k2, k3, _⟩ := h.pair k hrev.hpr
        have := (hrev.eff k (by omega) k2).1 (hall _ (h.atlt k (by omega)))
        omega
    refine ho μ' a' w' hc.ext ⟨hc.asz, by rw [hc.adef]; exact h0.defers.mono hc.ext, fun t p v hs ht => ?_⟩ (hR'.heap_congr fun b _ _ _ => (hG b).symm) hc.fr
    obtain ⟨e1, e2⟩ := hend t p hs
    by_cases hw : ∃ (i : Nat) (o : Oper), ops[i]? = some o ∧ o.dst = some t
    · obtain ⟨i, o, hio, hd⟩ := hw
      rw [e1 i o hio hd] at ht
      cases ht
      exact hc.vals i o t (hall i (by rw [← h.opsn]; exact (Array.getElem?_eq_some_iff.1 hio).1)) hio hd
    · have hw' : ∀ (i : Nat) (o : Oper), ops[i]? = some o → o.dst ≠ some t := fun i o hio hd => hw ⟨i, o, hio, hd⟩
      rw [e2 hw'] at ht
      rw [hc.rest t fun i o _ hio => hw' i o hio]
      exact (h0.val t p v hs ht).mono hc.ext
  · exact ⟨hR.le, fun b g e he => ⟨(hR.ent b g e he).base, (hR.ent b g e he).ex⟩, hR.sep⟩
  · exact h.enter (j := 0) (Nat.zero_le _) (fun q _ _ => ⟨fun hh => absurd hh (hno _), fun hh => by omega⟩) (fun q hq => by omega) (fun q _ _ _ => hno _) fun _ => rfl
  · rw [Array.toList_replicate, cntT_rep, h.opsn, Nat.zero_add]
end
end
end Go.Ev
/- Every translated operation hands on one value and one memory, or fails. -/
namespace Go.Ev
noncomputable section
variable {Pr : Program}

abbrev Hn {α : Type} (f : (α → Out) → Out) : Prop := Hands f fun _ => True
abbrev Dt (h : KV → Out) : Prop := Det h fun _ _ => True
theorem Hands.hn {α : Type} {f : (α → Out) → Out} {R : α → Prop} (h : Hands f R) : Hn f := h.mono fun _ _ => trivial
theorem Hn.bind {α β : Type} {f : (α → Out) → Out} (h : Hn f) {g : α → (β → Out) → Out} (hg : ∀ v, Hn (g v)) : Hn fun k => f fun v => g v k := Hands.bind h fun v _ => hg v
theorem Dt.bind {α : Type} {f : (α → Out) → Out} (h : Hn f) {g : α → KV → Out} (hg : ∀ v, Dt (g v)) : Dt fun k => f fun v => g v k := Hands.det h fun v _ => hg v
theorem Dt.ite {b : Bool} {x y : KV → Out} (hx : Dt x) (hy : Dt y) : Dt fun k => iteO b (x k) (y k) := Det.ite (fun _ => hx) fun _ => hy
theorem Hn.ite {α : Type} {b : Bool} {x y : (α → Out) → Out} (hx : Hn x) (hy : Hn y) : Hn fun k => iteO b (x k) (y k) := Hands.ite (fun _ => hx) fun _ => hy
theorem Dt.ret (v : AV) (H : AH) : Dt fun k => k v H := Det.pure trivial
theorem Dt.fail (n : Nat) : Dt fun _ => .fail n := Det.fail n
theorem Hn.ret {α : Type} (v : α) : Hn fun k => k v := Hands.pure trivial
theorem Hn.fail {α : Type} (n : Nat) : Hn (α := α) fun _ => .fail n := Hands.fail n
theorem Dt.kb (b : Bool) (H : AH) : Dt fun k => kb b H k := .ret _ _
theorem Dt.fit (j : IntKind) (n : Int) (H : AH) : Dt fun k => fit j n H k := (hands_fit j n H).mono fun _ _ _ => trivial
theorem hn_natI (n : Int) : Hn fun k => natI n k := by cases n with
  | ofNat m => exact .ret m
  | negSucc m => exact .fail _
theorem Dt.forceS (l b : Nat) (H : AH) : Dt fun k => forceS l b H k := .bind (hands_forceN l).hn fun l => .bind (hands_forceN b).hn fun b => .ret _ _
theorem Dt.binI (o : BinOp) (j : IntKind) (a b : Int) (H : AH) : Dt fun k => binI o j a b H k := by
  cases o
  case add => exact .fit _ _ _
  case sub => exact .fit _ _ _
  case mul => exact .fit _ _ _
  case quo => exact .bind (hn_natI a) fun a => .bind (hn_natI b) fun b => .ite (.fail _) (.fit _ _ _)
  case rem => exact .bind (hn_natI a) fun a => .bind (hn_natI b) fun b => .ite (.fail _) (.fit _ _ _)
  case and => exact .bind (hn_natI a) fun a => .bind (hn_natI b) fun b => .fit _ _ _
  all_goals first | exact .fail _ | exact .kb _ _
theorem Dt.binS (o : BinOp) (la a lb b : Nat) (H : AH) : Dt fun k => binS o la a lb b H k := by
  cases o
  case add => exact .ite (.forceS _ _ _) (.fail _)
  all_goals first | exact .fail _ | exact .kb _ _
theorem Dt.isK {v : AV} {f : IntKind → Int → KV → Out} {g : Nat → Nat → KV → Out} (hf : ∀ j n, Dt (f j n)) (hg : ∀ l b, Dt (g l b)) : Dt fun k => isK v (fun j n => f j n k) (fun l b => g l b k) := by
  cases v
  case int j n => exact hf j n
  case str l b => exact hg l b
  all_goals exact .fail _
theorem Dt.slK {v : AV} {f : KV → Out} {g : P → Nat → Nat → Nat → Nat → KV → Out} (hf : Dt f) (hg : ∀ a b c d e, Dt (g a b c d e)) : Dt fun k => slK v (f k) (fun a b c d e => g a b c d e k) := by
  cases v
  case nils => exact hf
  case slice a b c d e => exact hg a b c d e
  all_goals exact .fail _
theorem Dt.ptrK {v : AV} {g : P → Nat → Nat → Nat → Nat → KV → Out} (hg : ∀ a b c d e, Dt (g a b c d e)) : Dt fun k => ptrK v (fun a b c d e => g a b c d e k) := by
  cases v
  case ptr a b c d e => exact hg a b c d e
  all_goals exact .fail _
theorem Dt.intK {v : AV} {g : IntKind → Int → KV → Out} (hg : ∀ a b, Dt (g a b)) : Dt fun k => intK v (fun a b => g a b k) := by
  cases v
  case int a b => exact hg a b
  all_goals exact .fail _
theorem Dt.strK {v : AV} {g : Nat → Nat → KV → Out} (hg : ∀ a b, Dt (g a b)) : Dt fun k => strK v (fun a b => g a b k) := by
  cases v
  case str a b => exact hg a b
  all_goals exact .fail _
theorem Dt.fnK {v : AV} {g : P → List AV → List AV → KV → Out} (hg : ∀ a b c, Dt (g a b c)) : Dt fun k => fnK v (fun a b c => g a b c k) := by
  cases v
  case fn a b c => exact hg a b c
  all_goals exact .fail _
theorem hn_fillP {L : List AV} {T : Fm} : ∀ {ps : List (Nat × Nat × XT)}, (∀ p ∈ ps, Hn (p.2.2 L T)) → ∀ cs : List AV, Hn fun k => fillP L T ps cs k
  | [], _, cs => .ret cs
  | p :: ps, h, cs => by
    unfold fillP
    exact .bind (h p (by simp)) fun v => .bind (hands_cellsK v).hn fun vs => .ite (.bind (hands_spliceK 13 vs p.1 cs).hn fun cs => hn_fillP (fun q hq => h q (List.mem_cons_of_mem _ hq)) cs) (.fail _)
theorem partsL_mem {rd : Operand → Option XT} {place : Nat → Option (Nat × Nat)} : ∀ {qs : List (Nat × Operand)} {ps : List (Nat × Nat × XT)}, partsL rd place qs = some ps → ∀ p ∈ ps, ∃ y, rd y = some p.2.2
  | [], ps, h, p, hp => by cases h; cases hp
  | q :: qs, ps, h, p, hp => by
    obtain ⟨p', hp', h⟩ := Option.bind_eq_some_iff.1 h
    obtain ⟨x, hx, h⟩ := Option.bind_eq_some_iff.1 h
    obtain ⟨r, hr', h⟩ := Option.bind_eq_some_iff.1 h
    cases h
    rcases List.mem_cons.1 hp with rfl | hp
    · exact ⟨_, hx⟩
    · exact partsL_mem hr' p hp
theorem hn_rds {L : List AV} {T : Fm} : ∀ {xs : List XT}, (∀ x ∈ xs, Hn (x L T)) → Hn fun k => rds L T xs k
  | [], _ => .ret []
  | x :: xs, h => .bind (f := x L T) (h x (by simp)) fun v => .bind (f := rds L T xs) (hn_rds fun y hy => h y (List.mem_cons_of_mem _ hy)) fun vs => .ret _
theorem rdsL_mem {rd : Operand → Option XT} : ∀ {ys : List Operand} {xs : List XT}, rdsL rd ys = some xs → ∀ x ∈ xs, ∃ y, rd y = some x
  | [], xs, h, x, hx => by cases h; cases hx
  | y :: ys, xs, h, x, hx => by
    obtain ⟨x', hx', h⟩ := Option.bind_eq_some_iff.1 h
    obtain ⟨xs', hxs, h⟩ := Option.bind_eq_some_iff.1 h
    cases h
    rcases List.mem_cons.1 hx with rfl | hx
    · exact ⟨_, hx'⟩
    · exact rdsL_mem hxs x hx
theorem hn_bnd (d : Nat) (x : Option AV) : Hn fun k => bnd d x k := by
  cases x with
  | none => exact .ret d
  | some x => exact (hands_natK x).hn
theorem hn_rdV {L : List AV} {T : Fm} {x : Option XT} (h : ∀ y, x = some y → Hn (y L T)) : Hn fun k => rdV L T x k := by
  cases x with
  | none => exact .ret none
  | some x => exact .bind (f := x L T) (h x rfl) fun v => .ret (some v)
theorem hn_minL {j : IntKind} : ∀ (vs : List AV) (a : Int), Hn fun k => minL j vs a k
  | [], a => .ret a
  | v :: vs, a => by
    cases v
    case int j' b =>
      exact .ite (.ite (hn_minL vs b) (hn_minL vs a)) (.fail _)
    all_goals exact .fail _
theorem hn_maxL {j : IntKind} : ∀ (vs : List AV) (a : Int), Hn fun k => maxL j vs a k
  | [], a => .ret a
  | v :: vs, a => by
    cases v
    case int j' b =>
      exact .ite (.ite (hn_maxL vs b) (hn_maxL vs a)) (.fail _)
    all_goals exact .fail _
theorem hn_byteK (cs : List AV) : Hn fun k => byteK cs k := by
  cases cs with
  | nil => exact .fail _
  | cons v vs =>
    cases v
    case int j n => exact .bind (f := natI n) (hn_natI n) fun n => .ite (.ret n) (.fail _)
    all_goals exact .fail _
theorem hn_packL : ∀ els : List (List AV), Hn fun k => packL els k
  | [] => .ret 0
  | c :: els => .bind (f := byteK c) (hn_byteK c) fun m => .bind (f := packL els) (hn_packL els) fun r => (hands_forceN _).hn
theorem Dt.newBlk {B : Blk} {H : AH} {g : P → AH → KV → Out} (hg : ∀ p H, Dt (g p H)) : Dt fun k => newBlk B H fun p H => g p H k :=
  Hands.det (g := fun (r : P × AH) k => g r.1 r.2 k) (hands_newBlk B H) fun r _ => hg r.1 r.2
theorem hn_atBlk (H : AH) (b : P) (g i : Nat) : Hn fun k => atBlk H b g i k :=
  .bind (f := fun k => blk H b k) (hands_getP 4 b H.bl).hn fun B => .ite (hands_getK 8 i B.el).hn (.fail _)
theorem hn_ldK (n : Option Nat) (off room : Nat) (cs : List AV) : Hn fun k => ldK n off room cs k := by
  cases n with
  | none => exact .ite (hands_nthK 5 cs off).hn (.fail _)
  | some n => exact .ite (.bind (f := dropK (.fail 7) off cs) (hands_dropK 7 off cs).hn fun cs => .bind (f := takeK (.fail 7) n cs) (hands_takeK 7 n cs).hn fun cs => .ret _) (.fail _)
theorem hn_stBlk (B : Blk) (i : Nat) (cs : List AV) (b : P) (H : AH) : Hn fun k => stBlk B i cs b H k :=
  .bind (f := Tr.setK cs (.fail 18) 40 B.el i) (hands_setK cs 18 40 i B.el).hn fun el => .bind (f := _root_.Go.Ev.Hp.setP _ b H.bl) (hands_setP _ b H.bl).hn fun bl => .ret _
theorem hn_storeV (n : Nat) (p v : AV) (H : AH) : Hn fun k => storeV n p v H k := by
  cases p
  case ptr b g i off room =>
    exact .bind (f := cellsK v) (hands_cellsK v).hn fun vs => .ite (.bind (f := fun k => blk H b k) (hands_getP 4 b H.bl).hn fun B => .ite (.bind (f := B.el.getK (.fail 8) i) (hands_getK 8 i B.el).hn fun cs => .bind (f := spliceK (.fail 17) vs off cs) (hands_spliceK 17 vs off cs).hn fun cs => hn_stBlk B i cs b H) (.fail _)) (.fail _)
  all_goals exact .fail _

section
variable {call : FT} {L : List AV} {T : Fm} {H : AH}
theorem dt_mv {x : XT} (hx : Hn (x L T)) : Dt (hMv x call L T H) := .bind (f := x L T) hx fun v => .ret _ _
theorem dt_pick {c x y : XT} (hc : Hn (c L T)) (hx : Hn (x L T)) (hy : Hn (y L T)) : Dt (hPick c x y call L T H) := .bind (f := c L T) hc fun v => .bind (f := x L T) hx fun u => .bind (f := y L T) hy fun u' => .bind (f := boolK v) (hands_boolK v).hn fun b => .ite (.ret _ _) (.ret _ _)
theorem dt_alloc (n : Nat) (z : List AV) : Dt (hAlloc n z call L T H) := by
  show Dt fun k => newBlk (.mk 0 0 1 n (.n (some z) .e .e)) H fun b H => k (.ptr b 0 0 0 n) H
  exact .newBlk fun b H => .ret _ _
theorem dt_box (n : Nat) {x : XT} (hx : Hn (x L T)) : Dt (hBox n x call L T H) := .bind (f := x L T) hx fun v => .bind (f := cellsK v) (hands_cellsK v).hn fun cs => .ite (.newBlk fun b H => .ret _ _) (.fail _)
theorem dt_build (z : List AV) {ps : List (Nat × Nat × XT)} (h : ∀ p ∈ ps, Hn (p.2.2 L T)) : Dt (hBuild z ps call L T H) := .bind (f := fillP L T ps z) (hn_fillP h z) fun cs => .ret _ _
theorem dt_bslice (sz len : Nat) (z : List AV) {xs : List (Option XT)} (h : ∀ x, some x ∈ xs → Hn (x L T)) : Dt (hBslice sz len z xs call L T H) := .bind (f := elsP L T sz z xs) (hands_elsP0 h) fun els => .bind (f := fillK (.fail 16) els .e 0) (hands_fillK 16 els .e 0).hn fun t => .newBlk fun b H => .ret _ _
theorem dt_load (n : Option Nat) {x : XT} (hx : Hn (x L T)) : Dt (hLoad n x call L T H) := .bind (f := x L T) hx fun v => .ptrK fun b g i off room => .bind (f := atBlk H b g i) (hn_atBlk H b g i) fun cs => .bind (f := ldK n off room cs) (hn_ldK n off room cs) fun v => .ret _ _
theorem dt_store (n : Nat) {x y : XT} (hx : Hn (x L T)) (hy : Hn (y L T)) : Dt (hStore n x y call L T H) := .bind (f := x L T) hx fun p => .bind (f := y L T) hy fun v => .bind (f := storeV n p v H) (hn_storeV n p v H) fun H => .ret _ _
theorem dt_nilc {x : XT} (hx : Hn (x L T)) : Dt (hNilc x call L T H) := .bind (f := x L T) hx fun v => .ptrK fun _ _ _ _ _ => .ret _ _
theorem dt_bin (o : BinOp) {x y : XT} (hx : Hn (x L T)) (hy : Hn (y L T)) : Dt (hBin o x y call L T H) := .bind (f := x L T) hx fun v => .bind (f := y L T) hy fun w => .isK (fun j a => .intK fun j' b => .ite (.binI _ _ _ _ _) (.fail _)) fun la a => .strK fun lb b => .binS _ _ _ _ _ _
theorem dt_shr {x y : XT} (hx : Hn (x L T)) (hy : Hn (y L T)) : Dt (hShr x y call L T H) := .bind (f := x L T) hx fun v => .bind (f := y L T) hy fun w => .intK fun j a => .bind (f := natI a) (hn_natI a) fun a => .bind (f := natK w) (hands_natK w).hn fun b => .ite (.fit _ _ _) (.fail _)
theorem Dt.maskK {v : AV} {f : IntKind → Nat → Nat → KV → Out} {f2 : IntKind → Nat → Nat → Nat → KV → Out} {g : IntKind → Int → KV → Out} (hf : ∀ j n m, Dt (f j n m)) (hf2 : ∀ j n m l, Dt (f2 j n m l)) (hg : ∀ l b, Dt (g l b)) : Dt fun k => maskK v (fun j n m => f j n m k) (fun j n m l => f2 j n m l k) (fun l b => g l b k) := by
  cases v
  case int j n => exact hg j n
  case mask j m r => exact hf j m r
  case msk2 j m d r => exact hf2 j m d r
  all_goals exact .fail _
theorem Dt.mdK {v : AV} {f : IntKind → Nat → Nat → KV → Out} {g : IntKind → Int → KV → Out} (hf : ∀ j n m, Dt (f j n m)) (hg : ∀ l b, Dt (g l b)) : Dt fun k => mdK v (fun j n m => f j n m k) (fun l b => g l b k) := by
  cases v
  case int j n => exact hg j n
  case md j m r => exact hf j m r
  all_goals exact .fail _
theorem dt_and {x y : XT} (hx : Hn (x L T)) (hy : Hn (y L T)) : Dt (hAnd x y call L T H) := .bind (f := x L T) hx fun v => .bind (f := y L T) hy fun w => .intK fun j' b => .maskK (fun j m r => .ite (.ret _ _) (.fail _)) (fun j m d r => .ite (.ret _ _) (.fail _)) fun j a => .ite (.binI .and j a b H) (.fail _)
theorem dt_rem {x y : XT} (hx : Hn (x L T)) (hy : Hn (y L T)) : Dt (hRem x y call L T H) := .bind (f := x L T) hx fun v => .bind (f := y L T) hy fun w => .intK fun j' b => .mdK (fun j d r => .ite (.ret _ _) (.fail _)) fun j a => .ite (.binI .rem j a b H) (.fail _)
theorem Dt.pnK {v : AV} {f : KV → Out} {g : P → Nat → Nat → Nat → Nat → KV → Out} (hf : Dt f) (hg : ∀ a b c d e, Dt (g a b c d e)) : Dt fun k => pnK v (f k) (fun a b c d e => g a b c d e k) := by
  cases v
  case nilp => exact hf
  case ptr a b c d e => exact hg a b c d e
  all_goals exact .fail _
theorem dt_eqNilP (n : Bool) {x y : XT} (hx : Hn (x L T)) (hy : Hn (y L T)) : Dt (hEqNilP n x y call L T H) := .bind (f := x L T) hx fun v => .bind (f := y L T) hy fun w => .pnK (.pnK (.ret _ _) fun _ _ _ _ _ => .ret _ _) fun _ _ _ _ _ => .pnK (.ret _ _) fun _ _ _ _ _ => .fail _
theorem dt_eqNilS (n : Bool) {x y : XT} (hx : Hn (x L T)) (hy : Hn (y L T)) : Dt (hEqNilS n x y call L T H) := .bind (f := x L T) hx fun v => .bind (f := y L T) hy fun w => .slK (.slK (.ret _ _) fun _ _ _ _ _ => .ret _ _) fun _ _ _ _ _ => .slK (.ret _ _) fun _ _ _ _ _ => .fail _
theorem dt_eqB (n : Bool) {x y : XT} (hx : Hn (x L T)) (hy : Hn (y L T)) : Dt (hEqB n x y call L T H) := .bind (f := x L T) hx fun v => .bind (f := y L T) hy fun w => .bind (f := boolK v) (hands_boolK v).hn fun a => .bind (f := boolK w) (hands_boolK w).hn fun b => .kb _ _
theorem dt_not {x : XT} (hx : Hn (x L T)) : Dt (hNot x call L T H) := .bind (f := x L T) hx fun v => .bind (f := boolK v) (hands_boolK v).hn fun a => .kb _ _
theorem dt_neg {x : XT} (hx : Hn (x L T)) : Dt (hNeg x call L T H) := .bind (f := x L T) hx fun v => .intK fun j n => .fit _ _ _
theorem dt_conv (j : IntKind) {x : XT} (hx : Hn (x L T)) : Dt (hConv j x call L T H) := .bind (f := x L T) hx fun v => .intK fun _ n => .fit _ _ _
theorem dt_conv8 {x : XT} (hx : Hn (x L T)) : Dt (hConv8 x call L T H) := .bind (f := x L T) hx fun v => .bind (f := natK v) (hands_natK v).hn fun n => .ret _ _
theorem dt_ofBytes {x : XT} (hx : Hn (x L T)) : Dt (hOfBytes x call L T H) := .bind (f := x L T) hx fun v => .slK (.ret _ _) fun b g off len sx => .bind (f := fun k => blk H b k) (hands_getP 4 b H.bl).hn fun B => .ite (.bind (f := readEl (.fail 40) B.el len off) (hands_readEl 40 B.el len off).hn fun els => .bind (f := packL els) (hn_packL els) fun r => .forceS _ _ _) (.fail _)
theorem dt_mkfn (f : P) {xs ys : List XT} (hx : ∀ x ∈ xs, Hn (x L T)) (hy : ∀ x ∈ ys, Hn (x L T)) : Dt (hMkfn f xs ys call L T H) := .bind (f := rds L T xs) (hn_rds hx) fun a => .bind (f := rds L T ys) (hn_rds hy) fun b => .ret _ _
theorem dt_mkslice (sz : Nat) (z : List AV) {x : XT} (hx : Hn (x L T)) : Dt (hMkslice sz z x call L T H) := .bind (f := x L T) hx fun v => .bind (f := natK v) (hands_natK v).hn fun n => .ite (.bind (f := rep z n) (hands_rep z n).hn fun els => .bind (f := fillK (.fail 44) els .e 0) (hands_fillK 44 els .e 0).hn fun t => .newBlk fun b H => .ret _ _) (.fail _)
theorem dt_substr {x : XT} {lo hi : Option XT} (hx : Hn (x L T)) (hl : ∀ y, lo = some y → Hn (y L T)) (hh : ∀ y, hi = some y → Hn (y L T)) : Dt (hSubstr x lo hi call L T H) := .bind (f := x L T) hx fun v => .bind (f := rdV L T lo) (hn_rdV hl) fun lo => .bind (f := rdV L T hi) (hn_rdV hh) fun hi => .strK fun len bits => .bind (f := bnd len hi) (hn_bnd _ _) fun h => .bind (f := bnd 0 lo) (hn_bnd _ _) fun l => .ite (.forceS _ _ _) (.fail _)
theorem dt_subsl (sz : Nat) {x : XT} {lo hi : Option XT} (hx : Hn (x L T)) (hl : ∀ y, lo = some y → Hn (y L T)) (hh : ∀ y, hi = some y → Hn (y L T)) : Dt (hSubsl sz x lo hi call L T H) := .bind (f := x L T) hx fun v => .bind (f := rdV L T lo) (hn_rdV hl) fun lo => .bind (f := rdV L T hi) (hn_rdV hh) fun hi => .slK (.fail _) fun b g off len s => .ite (.bind (f := bnd len hi) (hn_bnd _ _) fun h => .bind (f := bnd 0 lo) (hn_bnd _ _) fun l => .ite (.bind (f := forceN _) (hands_forceN _).hn fun n => .bind (f := forceN _) (hands_forceN _).hn fun o => .ret _ _) (.fail _)) (.fail _)
theorem dt_faddr (o r : Nat) {x : XT} (hx : Hn (x L T)) : Dt (hFaddr o r x call L T H) := .bind (f := x L T) hx fun v => .ptrK fun b g i off room => .ite (.ret _ _) (.fail _)
theorem dt_field1 (o : Nat) {x : XT} (hx : Hn (x L T)) : Dt (hField1 o x call L T H) := .bind (f := x L T) hx fun v => .bind (f := aggK v) (hands_aggK v).hn fun cs => .bind (f := nthK (.fail 52) cs o) (hands_nthK 52 cs o).hn fun v => .ret _ _
theorem dt_fieldN (o n : Nat) {x : XT} (hx : Hn (x L T)) : Dt (hFieldN o n x call L T H) := .bind (f := x L T) hx fun v => .bind (f := aggK v) (hands_aggK v).hn fun cs => .bind (f := dropK (.fail 52) o cs) (hands_dropK 52 o cs).hn fun l => .bind (f := takeK (.fail 52) n l) (hands_takeK 52 n l).hn fun l => .ret _ _
theorem dt_iaddr (sz : Nat) {x y : XT} (hx : Hn (x L T)) (hy : Hn (y L T)) : Dt (hIaddr sz x y call L T H) := .bind (f := x L T) hx fun v => .bind (f := y L T) hy fun w => .slK (.fail _) fun b g off len s => .bind (f := natK w) (hands_natK w).hn fun m => .ite (.ret _ _) (.fail _)
theorem dt_sidx {x y : XT} (hx : Hn (x L T)) (hy : Hn (y L T)) : Dt (hSidx x y call L T H) := .bind (f := x L T) hx fun v => .bind (f := y L T) hy fun w => .strK fun len bits => .bind (f := natK w) (hands_natK w).hn fun m => .ite (.ret _ _) (.fail _)
theorem dt_ext (i : Nat) {x : XT} (hx : Hn (x L T)) : Dt (hExt x i call L T H) := .bind (f := x L T) hx fun v => .bind (f := tupK v) (hands_tupK v).hn fun vs => .bind (f := nthK (.fail 58) vs i) (hands_nthK 58 vs i).hn fun v => .ret _ _
theorem dt_strlen {x : XT} (hx : Hn (x L T)) : Dt (hStrlen x call L T H) := .bind (f := x L T) hx fun v => .strK fun len _ => .fit _ _ _
theorem dt_sllen {x : XT} (hx : Hn (x L T)) : Dt (hSllen x call L T H) := .bind (f := x L T) hx fun v => .slK (.ret _ _) fun _ _ _ len _ => .fit _ _ _
theorem hn_srcK (sz : Nat) (b : P) (g off n sx : Nat) (H : AH) : Hn fun k => srcK sz b g off n sx H k := .bind (f := fun k => blk H b k) (hands_getP 4 b H.bl).hn fun B => .ite (hands_readEl 66 B.el n off).hn (.fail _)
theorem dt_app2 (n : Nat) (u : AV) (H : AH) (m : Nat) {z : KV → Out} (hz : Dt z) : Dt fun k => app2 n u H k m (z k) := .ite (.ret _ _) (.ite hz (.fail _))
theorem dt_appNil (sz n : Nat) (new : List (List AV)) (H : AH) : Dt fun k => appNil sz n new H k := .bind (f := fillK (.fail 62) new .e 0) (hands_fillK 62 new .e 0).hn fun t => .newBlk fun b H => .ret _ _
theorem dt_appTo (sz n : Nat) (b : P) (g off len s : Nat) (new : List (List AV)) (H : AH) : Dt fun k => appTo sz n b g off len s new H k :=
  .bind (f := fun k => blk H b k) (hands_getP 4 b H.bl).hn fun B => .ite (.bind (f := fillK (.fail 63) new B.el len) (hands_fillK 63 new B.el len).hn fun el => .bind (f := forceN _) (hands_forceN _).hn fun c => .bind (f := forceN _) (hands_forceN _).hn fun m => .bind (f := _root_.Go.Ev.Hp.setP _ b H.bl) (hands_setP _ b H.bl).hn fun bl => .ret _ _) (.fail _)
theorem dt_append (sz : Nat) {s x : XT} (hs : Hn (s L T)) (hx : Hn (x L T)) : Dt (hAppend sz s x call L T H) := .bind (f := s L T) hs fun u => .bind (f := x L T) hx fun v => .slK
  (.slK (.ret _ _) fun b g off n sx => dt_app2 _ _ _ _ (.bind (f := srcK sz b g off n sx H) (hn_srcK sz b g off n sx H) fun els => dt_appNil sz n els H))
  fun b' g' off' len' s' => .slK (.ret _ _) fun b g off n sx => dt_app2 _ _ _ _ (.bind (f := srcK sz b g off n sx H) (hn_srcK sz b g off n sx H) fun els => dt_appTo sz n b' g' off' len' s' els H)
theorem dt_min {x : XT} {xs : List XT} (hx : Hn (x L T)) (hxs : ∀ x ∈ xs, Hn (x L T)) : Dt (hMin x xs call L T H) := .bind (f := x L T) hx fun v => .bind (f := rds L T xs) (hn_rds hxs) fun vs => .intK fun j a => .bind (f := minL j vs a) (hn_minL vs a) fun n => .ret _ _
theorem dt_max {x : XT} {xs : List XT} (hx : Hn (x L T)) (hxs : ∀ x ∈ xs, Hn (x L T)) : Dt (hMax x xs call L T H) := .bind (f := x L T) hx fun v => .bind (f := rds L T xs) (hn_rds hxs) fun vs => .intK fun j a => .bind (f := maxL j vs a) (hn_maxL vs a) fun n => .ret _ _
theorem dt_kc (r : CR) : Dt fun k => kc k r := by cases r with
  | ok v H => exact .ret v H
  | fail n => exact .fail n
theorem dt_call (f : P) {xs : List XT} (hxs : ∀ x ∈ xs, Hn (x L T)) : Dt (hCall f xs call L T H) := .bind (f := rds L T xs) (hn_rds hxs) fun vs => dt_kc _
theorem dt_callv {x : XT} {xs : List XT} (hx : Hn (x L T)) (hxs : ∀ x ∈ xs, Hn (x L T)) : Dt (hCallv x xs call L T H) := .bind (f := x L T) hx fun v => .bind (f := rds L T xs) (hn_rds hxs) fun vs => .fnK fun f a c => dt_kc _
theorem dt_guard {x : XT} {w : Bool} {h : HT} (hx : Hn (x L T)) (hh : Dt (h call L T H)) : Dt (hG x w h call L T H) := .bind (f := x L T) hx fun v => by
  cases v
  case undef => exact .ret _ _
  case bool b => cases w with
    | false => exact .ite (.ret _ _) hh
    | true => exact .ite hh (.ret _ _)
  all_goals exact .fail _

theorem compOp_det {rd : Operand → Option XT} {op : Op} {h : HT} (hh : compOp Pr rd op = some h) (hr : ∀ y x, rd y = some x → Hn (x L T)) : Dt (h call L T H) := by
  unfold compOp at hh
  split at hh
  · obtain ⟨x, hx, rfl⟩ := cp1_some hh; exact dt_mv (hr _ _ hx)
  · obtain ⟨x, hx, rfl⟩ := cp1_some hh; exact dt_mv (hr _ _ hx)
  · obtain ⟨c, hc, hh⟩ := Option.bind_eq_some_iff.1 hh
    obtain ⟨x, u, hx, hu, rfl⟩ := cp2_some hh
    exact dt_pick (hr _ _ hc) (hr _ _ hx) (hr _ _ hu)
  · obtain ⟨iz, hz, hh⟩ := Option.bind_eq_some_iff.1 hh
    cases hh; exact dt_alloc _ _
  · obtain ⟨i, hi, hh⟩ := Option.bind_eq_some_iff.1 hh
    obtain ⟨x, hx, rfl⟩ := cp1_some hh; exact dt_box _ (hr _ _ hx)
  · obtain ⟨zp, hp, hh⟩ := Option.bind_eq_some_iff.1 hh
    obtain ⟨z, hz, hh⟩ := Option.bind_eq_some_iff.1 hh
    obtain ⟨ps, hps, hh⟩ := Option.bind_eq_some_iff.1 hh
    cases hh; exact dt_build _ fun p hp => let ⟨y, hy⟩ := partsL_mem hps p hp; hr y _ hy
  · unfold cpBslice at hh
    split at hh
    · obtain ⟨iz, hz, hh⟩ := Option.bind_eq_some_iff.1 hh
      obtain ⟨xs, hxs, hh⟩ := Option.bind_eq_some_iff.1 hh
      revert hh
      generalize Nat.ble _ _ = b1
      generalize Nat.beq _ _ = b2
      intro hh
      cases b1
      · cases hh
      · cases b2
        · cases hh; exact dt_bslice _ _ _ fun x hx => let ⟨y, hy⟩ := bsL_mem hxs x hx; hr y x hy
        · cases hh
    · cases hh
  · obtain ⟨d, hd, hh⟩ := Option.bind_eq_some_iff.1 hh
    obtain ⟨i, hi, hh⟩ := Option.bind_eq_some_iff.1 hh
    obtain ⟨x, hx, rfl⟩ := cp1_some hh; exact dt_load _ (hr _ _ hx)
  · obtain ⟨i, hi, hh⟩ := Option.bind_eq_some_iff.1 hh
    obtain ⟨x, u, hx, hu, rfl⟩ := cp2_some hh
    exact dt_store _ (hr _ _ hx) (hr _ _ hu)
  · obtain ⟨x, hx, rfl⟩ := cp1_some hh; exact dt_nilc (hr _ _ hx)
  · unfold cpBin at hh
    split at hh
    · split at hh
      · obtain ⟨x, u, hx, hu, rfl⟩ := cp2_some hh; exact dt_shr (hr _ _ hx) (hr _ _ hu)
      · obtain ⟨x, u, hx, hu, rfl⟩ := cp2_some hh; exact dt_and (hr _ _ hx) (hr _ _ hu)
      · obtain ⟨x, u, hx, hu, rfl⟩ := cp2_some hh; exact dt_rem (hr _ _ hx) (hr _ _ hu)
      · obtain ⟨x, u, hx, hu, rfl⟩ := cp2_some hh; exact dt_bin _ (hr _ _ hx) (hr _ _ hu)
    · obtain ⟨x, u, hx, hu, rfl⟩ := cp2_some hh; exact dt_bin _ (hr _ _ hx) (hr _ _ hu)
    · split at hh
      · obtain ⟨x, u, hx, hu, rfl⟩ := cp2_some hh; exact dt_eqNilP _ (hr _ _ hx) (hr _ _ hu)
      · obtain ⟨x, u, hx, hu, rfl⟩ := cp2_some hh; exact dt_eqNilP _ (hr _ _ hx) (hr _ _ hu)
      · cases hh
    · split at hh
      · obtain ⟨x, u, hx, hu, rfl⟩ := cp2_some hh; exact dt_eqNilS _ (hr _ _ hx) (hr _ _ hu)
      · obtain ⟨x, u, hx, hu, rfl⟩ := cp2_some hh; exact dt_eqNilS _ (hr _ _ hx) (hr _ _ hu)
      · cases hh
    · split at hh
      · obtain ⟨x, u, hx, hu, rfl⟩ := cp2_some hh; exact dt_eqB _ (hr _ _ hx) (hr _ _ hu)
      · obtain ⟨x, u, hx, hu, rfl⟩ := cp2_some hh; exact dt_eqB _ (hr _ _ hx) (hr _ _ hu)
      · cases hh
    · cases hh
  · obtain ⟨x, hx, rfl⟩ := cp1_some hh; exact dt_not (hr _ _ hx)
  · obtain ⟨x, hx, rfl⟩ := cp1_some hh; exact dt_neg (hr _ _ hx)
  · unfold cpConv at hh
    split at hh
    · obtain ⟨x, hx, rfl⟩ := cp1_some hh; exact dt_conv8 (hr _ _ hx)
    · obtain ⟨x, hx, rfl⟩ := cp1_some hh; exact dt_conv _ (hr _ _ hx)
    · split at hh
      · obtain ⟨x, hx, rfl⟩ := cp1_some hh; exact dt_ofBytes (hr _ _ hx)
      · cases hh
    · cases hh
  · obtain ⟨p, hp, hh⟩ := Option.bind_eq_some_iff.1 hh
    obtain ⟨xs, hxs, hh⟩ := Option.bind_eq_some_iff.1 hh
    obtain ⟨us, hus, hh⟩ := Option.bind_eq_some_iff.1 hh
    cases hh
    exact dt_mkfn _ (fun x hx => let ⟨y, hy⟩ := rdsL_mem hxs x hx; hr y x hy) fun x hx => let ⟨y, hy⟩ := rdsL_mem hus x hx; hr y x hy
  · unfold cpMkslice at hh
    split at hh
    · obtain ⟨iz, hz, hh⟩ := Option.bind_eq_some_iff.1 hh
      revert hh
      generalize sameOpd _ _ = b1
      generalize Nat.ble _ _ = b2
      intro hh
      cases b1
      · cases hh
      · cases b2
        · cases hh
        · obtain ⟨x, hx, rfl⟩ := cp1_some hh; exact dt_mkslice _ _ (hr _ _ hx)
    · cases hh
  · obtain ⟨x, hx, hh⟩ := Option.bind_eq_some_iff.1 hh
    obtain ⟨l, hl, hh⟩ := Option.bind_eq_some_iff.1 hh
    obtain ⟨u, hu, hh⟩ := Option.bind_eq_some_iff.1 hh
    have ho : ∀ {y : Option Operand} {x : Option XT}, rdO rd y = some x → ∀ z, x = some z → Hn (z L T) := by
      intro y x h z hz
      subst hz
      cases y with
      | none => cases h
      | some y =>
        obtain ⟨x', hx, h⟩ := Option.bind_eq_some_iff.1 h
        cases h; exact hr _ _ hx
    split at hh
    · cases hh; exact dt_substr (hr _ _ hx) (ho hl) (ho hu)
    · obtain ⟨i, hi, hh⟩ := Option.bind_eq_some_iff.1 hh
      cases hh; exact dt_subsl _ (hr _ _ hx) (ho hl) (ho hu)
    · cases hh
  · unfold cpFaddr at hh
    split at hh
    · obtain ⟨fd, hf, hh⟩ := Option.bind_eq_some_iff.1 hh
      obtain ⟨i, hi, hh⟩ := Option.bind_eq_some_iff.1 hh
      cases hb : Nat.beq i.size 0 with
      | true => rw [hb] at hh; cases hh
      | false =>
        rw [hb, cond_false] at hh
        obtain ⟨x, hx, rfl⟩ := cp1_some hh; exact dt_faddr _ _ (hr _ _ hx)
    · cases hh
  · unfold cpField at hh
    split at hh
    · obtain ⟨fd, hf, hh⟩ := Option.bind_eq_some_iff.1 hh
      obtain ⟨d, hd, hh⟩ := Option.bind_eq_some_iff.1 hh
      cases hb : aggB Pr fd.type with
      | true =>
        rw [hb, cond_true] at hh
        obtain ⟨i, hi, hh⟩ := Option.bind_eq_some_iff.1 hh
        obtain ⟨x, hx, rfl⟩ := cp1_some hh; exact dt_fieldN _ _ (hr _ _ hx)
      | false =>
        rw [hb, cond_false] at hh
        obtain ⟨x, hx, rfl⟩ := cp1_some hh; exact dt_field1 _ (hr _ _ hx)
    · cases hh
  · unfold cpIaddr at hh
    split at hh
    · obtain ⟨i, hi, hh⟩ := Option.bind_eq_some_iff.1 hh
      obtain ⟨x, u, hx, hu, rfl⟩ := cp2_some hh; exact dt_iaddr _ (hr _ _ hx) (hr _ _ hu)
    · cases hh
  · unfold cpIndex at hh
    split at hh
    · obtain ⟨x, u, hx, hu, rfl⟩ := cp2_some hh; exact dt_sidx (hr _ _ hx) (hr _ _ hu)
    · cases hh
  · obtain ⟨x, hx, rfl⟩ := cp1_some hh; exact dt_ext _ (hr _ _ hx)
  · rename_i c
    have hrs : ∀ {ys : List Operand} {xs : List XT}, rdsL rd ys = some xs → ∀ x ∈ xs, Hn (x L T) := fun h x hx => let ⟨y, hy⟩ := rdsL_mem h x hx; hr y x hy
    unfold cpCall at hh
    split at hh
    · obtain ⟨p, hp, hh⟩ := Option.bind_eq_some_iff.1 hh
      obtain ⟨xs, hxs, hh⟩ := Option.bind_eq_some_iff.1 hh
      cases hh; exact dt_call _ (hrs hxs)
    · obtain ⟨x, hx, hh⟩ := Option.bind_eq_some_iff.1 hh
      obtain ⟨xs, hxs, hh⟩ := Option.bind_eq_some_iff.1 hh
      cases hh; exact dt_callv (hr _ _ hx) (hrs hxs)
    · unfold cpLen at hh
      split at hh
      · split at hh
        · obtain ⟨x, hx, rfl⟩ := cp1_some hh; exact dt_strlen (hr _ _ hx)
        · obtain ⟨x, hx, rfl⟩ := cp1_some hh; exact dt_sllen (hr _ _ hx)
        · cases hh
      · cases hh
    · unfold cpAppend at hh
      split at hh
      · revert hh
        generalize Nat.beq _ _ = b1
        intro hh
        cases b1
        · cases hh
        · rw [cond_true] at hh
          split at hh
          · obtain ⟨iz, hz, hh⟩ := Option.bind_eq_some_iff.1 hh
            revert hh
            generalize Nat.ble _ _ = b2
            intro hh
            cases b2
            · cases hh
            · obtain ⟨x, u, hx, hu, rfl⟩ := cp2_some hh; exact dt_append _ (hr _ _ hx) (hr _ _ hu)
          · cases hh
      · cases hh
    · unfold cpMin at hh
      split at hh
      · obtain ⟨x, hx, hh⟩ := Option.bind_eq_some_iff.1 hh
        obtain ⟨xs, hxs, hh⟩ := Option.bind_eq_some_iff.1 hh
        cases hh; exact dt_min (hr _ _ hx) (hrs hxs)
      · cases hh
    · unfold cpMin at hh
      split at hh
      · obtain ⟨x, hx, hh⟩ := Option.bind_eq_some_iff.1 hh
        obtain ⟨xs, hxs, hh⟩ := Option.bind_eq_some_iff.1 hh
        cases hh; exact dt_max (hr _ _ hx) (hrs hxs)
      · cases hh
    · cases hh
  · cases hh
end
end
end Go.Ev
/- Regions that draw their order: their translation, and what a run of it shows. -/
namespace Go.Ev
noncomputable section
variable {Pr : Program}

theorem sameV_eq {v w : AV} (h : sameV v w = true) : v = w := by
  have hi : ∀ {a b : Int}, eqI a b = true → a = b := fun {a b} h => by
    cases a <;> cases b <;> simp [eqI] at h <;> first | rw [h] | skip
  unfold sameV at h
  split at h
  · rename_i a b; cases a <;> cases b <;> first | rfl | cases h
  · rw [hi h]
  · rw [hi h]
  · unfold eqS at h
    obtain ⟨h1, h2⟩ := bandB h
    rw [Nat.eq_of_beq_eq_true h1, Nat.eq_of_beq_eq_true h2]
  · obtain ⟨h1, h⟩ := bandB h
    obtain ⟨h2, h⟩ := bandB h
    obtain ⟨h3, h⟩ := bandB h
    obtain ⟨h4, h5⟩ := bandB h
    rw [(P.beq_eq _ _).1 h1, Nat.eq_of_beq_eq_true h2, Nat.eq_of_beq_eq_true h3, Nat.eq_of_beq_eq_true h4, Nat.eq_of_beq_eq_true h5]
  · obtain ⟨h1, h⟩ := bandB h
    obtain ⟨h2, h⟩ := bandB h
    obtain ⟨h3, h⟩ := bandB h
    obtain ⟨h4, h5⟩ := bandB h
    rw [(P.beq_eq _ _).1 h1, Nat.eq_of_beq_eq_true h2, Nat.eq_of_beq_eq_true h3, Nat.eq_of_beq_eq_true h4, Nat.eq_of_beq_eq_true h5]
  · rfl
  · rfl
  · cases h
theorem sameL_eq : ∀ {x y : List AV}, sameL x y = true → x = y
  | [], [], _ => rfl
  | a :: x, b :: y, h => by
    obtain ⟨h1, h2⟩ := bandB h
    rw [sameV_eq h1, sameL_eq h2]
  | [], _ :: _, h => by cases h
  | _ :: _, [], h => by cases h
theorem same_eq {v w : AV} (h : same v w = true) : v = w := by
  unfold same at h
  split at h
  · rw [sameL_eq h]
  · exact sameV_eq h

/-! ### two stores into two blocks -/
def okH (H : AH) : Out := .nrm .e [] H
theorem Hands.atH {α : Type} {f : (α → Out) → Out} {R : α → Prop} (h : Hands f R) {g : α → (AH → Out) → Out} {H : AH} (hk : ∀ K : AH → Out, (f fun u => g u K) = K H) : ∃ u, R u ∧ (∀ k, f k = k u) ∧ ∀ K, g u K = K H := by
  rcases h with ⟨u, hr, hu⟩ | hb
  · exact ⟨u, hr, hu, fun K => by rw [← hk K, hu]⟩
  · obtain ⟨n, hn⟩ := hb fun u => g u okH
    rw [hk okH] at hn
    cases hn
def stF (B : Blk) (g i off : Nat) (vs : List AV) (c : Blk → Out) : Out :=
  iteO (Nat.beq B.cur g) (B.el.getK (.fail 8) i fun cs => spliceK (.fail 17) vs off cs fun cs => Tr.setK cs (.fail 18) 40 B.el i fun el => c (.mk B.cur B.cur B.size B.esz el)) (.fail 19)
theorem hn_stF (B : Blk) (g i off : Nat) (vs : List AV) : Hn fun c => stF B g i off vs c :=
  .ite (.bind (f := B.el.getK (.fail 8) i) (hands_getK 8 i B.el).hn fun cs => .bind (f := spliceK (.fail 17) vs off cs) (hands_spliceK 17 vs off cs).hn fun cs => .bind (f := Tr.setK cs (.fail 18) 40 B.el i) (hands_setK cs 18 40 i B.el).hn fun el => .ret _) (.fail _)
theorem storeV_at {n : Nat} {b : P} {g i off room : Nat} {v : AV} {H H' : AH} (hk : ∀ K, storeV n (.ptr b g i off room) v H K = K H') :
    ∃ B B', H.bl.at b = some B ∧ H'.bl = H.bl.put B' b ∧ ∀ G : AH, G.bl.at b = some B → ∃ G' : AH, (∀ K, storeV n (.ptr b g i off room) v G K = K G') ∧ G'.bl = G.bl.put B' b := by
  obtain ⟨vs, _, e1, hk⟩ := Hands.atH (f := cellsK v) (g := fun vs K => iteO (band (Nat.beq (lenL vs) n) (Nat.ble n room)) (blk H b fun B => stF B g i off vs fun B' => putBlk B' b H K) (.fail 20)) (hands_cellsK v) hk
  have hc : (band (Nat.beq (lenL vs) n) (Nat.ble n room)) = true := by
    cases hb : (band (Nat.beq (lenL vs) n) (Nat.ble n room)) with
    | true => rfl
    | false =>
      have := hk okH
      rw [hb] at this; cases this
  have hk : ∀ K : AH → Out, (blk H b fun B => stF B g i off vs fun B' => putBlk B' b H K) = K H' := fun K => by have := hk K; rw [hc] at this; exact this
  obtain ⟨B, hB, e2, hk⟩ := Hands.atH (f := fun k => blk H b k) (g := fun B K => stF B g i off vs fun B' => putBlk B' b H K) (hands_getP 4 b H.bl) hk
  obtain ⟨B', _, e3, hk⟩ := Hands.atH (f := fun c => stF B g i off vs c) (g := fun B' K => putBlk B' b H K) (hn_stF B g i off vs) hk
  have hput : ∀ (G : AH) (K : AH → Out), putBlk B' b G K = K ⟨G.next, G.bl.put B' b⟩ := fun G K => _root_.Go.Ev.Hp.setP_eq B' b G.bl fun bl' => K ⟨G.next, bl'⟩
  refine ⟨B, B', hB, ?_, fun G hG => ⟨⟨G.next, G.bl.put B' b⟩, fun K => ?_, rfl⟩⟩
  · have := hk okH
    rw [hput] at this
    unfold okH at this
    injection this with _ _ h3
    rw [← h3]
  · show (cellsK v fun vs => iteO (band (Nat.beq (lenL vs) n) (Nat.ble n room)) (blk G b fun B => stF B g i off vs fun B' => putBlk B' b G K) (.fail 20)) = _
    rw [e1, hc]
    show (_root_.Go.Ev.Hp.getP (.fail 4) b G.bl fun B => stF B g i off vs fun B' => putBlk B' b G K) = _
    rw [_root_.Go.Ev.Hp.getP_eq, hG]
    show (stF B g i off vs fun B' => putBlk B' b G K) = _
    rw [e3, hput]
theorem storeV_swap {n1 n2 : Nat} {b1 b2 : P} {g1 i1 o1 r1 g2 i2 o2 r2 : Nat} {v1 v2 : AV} {H H1 H2 : AH} (hne : b1 ≠ b2) (h1 : ∀ K, storeV n1 (.ptr b1 g1 i1 o1 r1) v1 H K = K H1) (h2 : ∀ K, storeV n2 (.ptr b2 g2 i2 o2 r2) v2 H1 K = K H2) :
    ∃ X Y : AH, (∀ K, storeV n2 (.ptr b2 g2 i2 o2 r2) v2 H K = K X) ∧ (∀ K, storeV n1 (.ptr b1 g1 i1 o1 r1) v1 X K = K Y) ∧ ∀ b, Y.bl.at b = H2.bl.at b := by
  obtain ⟨B1, C1, p1, p2, p3⟩ := storeV_at h1
  obtain ⟨B2, C2, q1, q2, q3⟩ := storeV_at h2
  rw [p2, _root_.Go.Ev.Hp.at_put, if_neg (Ne.symm hne)] at q1
  obtain ⟨X, x1, x2⟩ := q3 H q1
  obtain ⟨Y, y1, y2⟩ := p3 X (by rw [x2, _root_.Go.Ev.Hp.at_put, if_neg hne]; exact p1)
  refine ⟨X, Y, x1, y1, fun b => ?_⟩
  rw [y2, x2, q2, p2, _root_.Go.Ev.Hp.at_put, _root_.Go.Ev.Hp.at_put, _root_.Go.Ev.Hp.at_put, _root_.Go.Ev.Hp.at_put]
  by_cases hb1 : b = b1
  · subst hb1; rw [if_pos rfl, if_neg hne, if_pos rfl]
  · rw [if_neg hb1, if_neg hb1]

/-! ### which operation stands before which, computed -/
def foldE (pre : List Nat) : List Edge → Nat → Nat
  | [], s => s
  | e :: es, s => foldE pre es (bif Region.binds .any e then Nat.lor s (Nat.lor (Nat.pow 2 e.on) (pre.getD e.on 0)) else s)
def edgesB (i : Nat) : List Edge → Bool
  | [] => true
  | e :: es => bif (bif Region.binds .any e then Nat.blt e.on i else true) then edgesB i es else false
def preL : List Oper → List Nat → List Nat
  | [], acc => acc
  | o :: os, acc => preL os (acc ++ [foldE acc o.after.toList 0])
def preChk (pre : List Nat) : List Oper → Nat → Bool
  | [], i => Nat.ble pre.length i
  | o :: os, i => bif Nat.beq (pre.getD i 0) (foldE pre o.after.toList 0) then bif edgesB i o.after.toList then preChk pre os (i + 1) else false else false
theorem foldE_bit (pre : List Nat) (j : Nat) : ∀ (es : List Edge) (s : Nat), (foldE pre es s).testBit j = true → s.testBit j = true ∨ ∃ e ∈ es, Region.binds .any e = true ∧ (e.on = j ∨ before pre e.on j = true)
  | [], s, h => .inl h
  | e :: es, s, h => by
    unfold foldE at h
    rcases foldE_bit pre j es _ h with h | ⟨e', he', hb⟩
    · cases hb : Region.binds .any e with
      | false => rw [hb, cond_false] at h; exact .inl h
      | true =>
        rw [hb, cond_true] at h
        have h' : (s ||| (2 ^ e.on ||| pre.getD e.on 0)).testBit j = true := h
        rw [Nat.testBit_or, Nat.testBit_or, Bool.or_eq_true, Bool.or_eq_true] at h'
        rcases h' with h' | h' | h'
        · exact .inl h'
        · rw [Nat.testBit_two_pow] at h'
          exact .inr ⟨e, by simp, hb, .inl (by simpa using h')⟩
        · exact .inr ⟨e, by simp, hb, .inr h'⟩
    · exact .inr ⟨e', List.mem_cons_of_mem _ he', hb⟩
theorem edgesB_spec {i : Nat} : ∀ {es : List Edge}, edgesB i es = true → ∀ e ∈ es, Region.binds .any e = true → e.on < i
  | [], _, e, he, _ => by cases he
  | e' :: es, h, e, he, hb => by
    unfold edgesB at h
    cases hc : (bif Region.binds .any e' then Nat.blt e'.on i else true) with
    | false => rw [hc] at h; cases h
    | true =>
      rw [hc, cond_true] at h
      rcases List.mem_cons.1 he with rfl | he
      · rw [hb, cond_true] at hc; exact natB hc
      · exact edgesB_spec h e he hb
theorem preChk_spec {pre : List Nat} : ∀ {os : List Oper} {i : Nat}, preChk pre os i = true → pre.length ≤ i + os.length ∧ ∀ m o, os[m]? = some o → pre.getD (i + m) 0 = foldE pre o.after.toList 0 ∧ edgesB (i + m) o.after.toList = true
  | [], i, h => ⟨by simpa using Nat.le_of_ble_eq_true h, by simp⟩
  | o :: os, i, h => by
    unfold preChk at h
    cases hb : Nat.beq (pre.getD i 0) (foldE pre o.after.toList 0) with
    | false => rw [hb] at h; cases h
    | true =>
      rw [hb, cond_true] at h
      cases he : edgesB i o.after.toList with
      | false => rw [he] at h; cases h
      | true =>
        rw [he, cond_true] at h
        obtain ⟨h1, h2⟩ := preChk_spec h
        refine ⟨by simp; omega, fun m o' hm => ?_⟩
        cases m with
        | zero => simp at hm; subst hm; exact ⟨Nat.eq_of_beq_eq_true hb, he⟩
        | succ m =>
          have := h2 m o' (by simpa using hm)
          rwa [show i + 1 + m = i + (m + 1) by omega] at this
theorem preOk {pre : List Nat} {ops : Array Oper} (h : preChk pre ops.toList 0 = true) : PreOk ops pre ∧ EdgesOk ops := by
  obtain ⟨h1, h2⟩ := preChk_spec h
  constructor
  · intro i j hb
    rcases Nat.lt_or_ge i ops.size with hlt | hge
    · obtain ⟨e1, e2⟩ := h2 i _ (by rw [Array.getElem?_toList, Array.getElem?_eq_getElem hlt])
      rw [Nat.zero_add] at e1 e2
      unfold before at hb
      rw [e1] at hb
      rcases foldE_bit pre j _ 0 hb with hb | ⟨e, he, hbind, hor⟩
      · simp at hb
      · exact ⟨_, Array.getElem?_eq_getElem hlt, e, by simpa using he, hbind, edgesB_spec e2 e he hbind, hor⟩
    · unfold before at hb
      rw [List.getD_eq_getElem?_getD, List.getElem?_eq_none (by simp at h1; omega)] at hb
      simp at hb
  · intro i o ho e he hbind
    obtain ⟨_, e2⟩ := h2 i o (by rw [Array.getElem?_toList]; exact ho)
    rw [Nat.zero_add] at e2
    exact edgesB_spec e2 e (by simpa using he) hbind
end
end Go.Ev
