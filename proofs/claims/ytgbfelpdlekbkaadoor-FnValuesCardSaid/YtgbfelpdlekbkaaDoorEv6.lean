/- A table of types is right when each of its rows is. -/
import Derived.Test.YtgbfelpdlekbkaaDoorEv5
set_option linter.unusedVariables false
set_option linter.unusedSimpArgs false
namespace Go.Lin

variable {P : Program} {tt : TT}

theorem TT.at_cases (tt : TT) (t : Nat) : (∃ p ∈ tt, p.1 = t ∧ tt.at t = p.2) ∨ tt.at t = TI.none_ := by
  induction tt with
  | nil => exact .inr rfl
  | cons p r ih =>
    obtain ⟨n, i⟩ := p
    cases h : (n == t) with
    | true =>
      have e : n = t := by simpa using h
      refine .inl ⟨(n, i), by simp, e, ?_⟩
      show (bif n == t then i else TT.at r t) = i
      rw [h]; rfl
    | false =>
      have e : TT.at ((n, i) :: r) t = TT.at r t := by
        show (bif n == t then i else TT.at r t) = TT.at r t
        rw [h]; rfl
      rcases ih with ⟨p, hp, h1, h2⟩ | h0
      · exact .inl ⟨p, by simp [hp], h1, e.trans h2⟩
      · exact .inr (e.trans h0)

structure RowOK (P : Program) (tt : TT) (t : Nat) (i : TI) : Prop where
  known : 0 < i.size → ∃ inf, P.info? t = some inf ∧ inf.size = i.size ∧ inf.bytes = i.bytes
  under : match i.kind with
    | .int k => P.underlying t = some (.int k)
    | .bool => P.underlying t = some .bool
    | .str => P.underlying t = some .string
    | .slice e => P.underlying t = some (.slice e) ∧ 0 < (tt.at e).size
    | .struct offs tys => ∃ fs : Array Field, P.underlying t = some (.struct fs) ∧ offs = fs.toList.map (·.offset) ∧ tys = fs.toList.map (·.type) ∧
        ∀ (j : Nat) f, fs[j]? = some f → 0 < P.cellsOf f.type ∧ placeOf offs i.size j = some (f.offset, P.cellsOf f.type)
    | .other => 0 < i.size → ∃ d, P.underlying t = some d ∧ (match d with | .struct _ | .array _ _ => true | _ => false) = false
  byte : (match i.kind with | .int .u8 => True | _ => False) → ∃ inf, P.info? t = some inf ∧ inf.zero = some (.int .u8 0) ∧ inf.size = 1 ∧ inf.bytes = 1
  zero : ∀ ty, i.ty = some ty → ty.size = i.size ∧ 0 < i.bytes ∧ ∃ inf z, P.info? t = some inf ∧ inf.zero = some z ∧ ∀ F w m bs, All2 (RL F w m bs) (zeros ty) z.cells.toList

theorem TTok.of_rows [Base] (h : ∀ p ∈ tt, RowOK P tt p.1 p.2) : TTok P tt := by
  refine ⟨fun t => ?_, fun t => ?_, fun t => ?_, fun t => ?_⟩ <;> rcases TT.at_cases tt t with ⟨p, hp, rfl, h2⟩ | h0
  · rw [h2]; exact (h p hp).known
  · rw [h0]; intro hh; cases hh
  · rw [h2]; exact (h p hp).under
  · rw [h0]; intro hh; cases hh
  · rw [h2]; exact (h p hp).byte
  · rw [h0]; intro hh; exact hh.elim
  · rw [h2]; exact (h p hp).zero
  · rw [h0]; intro ty hty; cases hty

/-- What is asked of a row beside what lies in the program's table. -/
def ZeroOK (i : TI) (z : Option Value) : Prop := match i.ty with
  | none => True
  | some ty => ty.size = i.size ∧ 0 < i.bytes ∧ ∃ v, z = some v ∧ ∀ F w m bs, All2 (RL F w m bs) (zeros ty) v.cells.toList
theorem RowOK.of {t : Nat} {i : TI} {z : Option Value} (h : (P.info? t).map (fun i => (i.zero, i.size, i.bytes)) = some (z, i.size, i.bytes))
    (hu : match i.kind with
    | .int k => P.underlying t = some (.int k)
    | .bool => P.underlying t = some .bool
    | .str => P.underlying t = some .string
    | .slice e => P.underlying t = some (.slice e) ∧ 0 < (tt.at e).size
    | .struct offs tys => ∃ fs : Array Field, P.underlying t = some (.struct fs) ∧ offs = fs.toList.map (·.offset) ∧ tys = fs.toList.map (·.type) ∧
        ∀ (j : Nat) f, fs[j]? = some f → 0 < P.cellsOf f.type ∧ placeOf offs i.size j = some (f.offset, P.cellsOf f.type)
    | .other => 0 < i.size → ∃ d, P.underlying t = some d ∧ (match d with | .struct _ | .array _ _ => true | _ => false) = false)
    (hb : (match i.kind with | .int .u8 => True | _ => False) → z = some (.int .u8 0) ∧ i.size = 1 ∧ i.bytes = 1) (hz : ZeroOK i z) : RowOK P tt t i := by
  cases hi : P.info? t with
  | none => rw [hi] at h; cases h
  | some inf =>
    rw [hi] at h
    simp only [Option.map_some, Option.some.injEq, Prod.mk.injEq] at h
    obtain ⟨h1, h2, h3⟩ := h
    refine ⟨fun _ => ⟨inf, hi, h2, h3⟩, hu, fun hk => ?_, fun ty hty => ?_⟩
    · obtain ⟨b1, b2, b3⟩ := hb hk
      exact ⟨inf, hi, h1.trans b1, h2.trans b2, h3.trans b3⟩
    · unfold ZeroOK at hz
      rw [hty] at hz
      obtain ⟨a1, a2, v, a3, a4⟩ := hz
      exact ⟨a1, a2, inf, v, hi, h1.trans a3, a4⟩

def fieldsOK (P : Program) (offs : List Nat) (size : Nat) (fs : Array Field) : Bool :=
  fs.toList.zipIdx.all fun x => Nat.blt 0 (P.cellsOf x.1.type) && (match placeOf offs size x.2 with | some (a, b) => Nat.beq a x.1.offset && Nat.beq b (P.cellsOf x.1.type) | none => false)
theorem fieldsOK_spec {offs : List Nat} {size : Nat} {fs : Array Field} (h : fieldsOK P offs size fs = true) (j : Nat) (f : Field) (hf : fs[j]? = some f) : 0 < P.cellsOf f.type ∧ placeOf offs size j = some (f.offset, P.cellsOf f.type) := by
  unfold fieldsOK at h
  rw [List.all_eq_true] at h
  have := h (f, j) (by rw [List.mem_zipIdx_iff_getElem?]; simpa using hf)
  rw [Bool.and_eq_true] at this
  obtain ⟨h1, h2⟩ := this
  refine ⟨by simpa [Nat.blt_eq] using h1, ?_⟩
  dsimp only at h2
  split at h2
  · rename_i a b hp
    rw [Bool.and_eq_true] at h2
    rw [hp, Nat.eq_of_beq_eq_true h2.1, Nat.eq_of_beq_eq_true h2.2]
  · cases h2
end Go.Lin
