/- Plain words: numbers, bytes, lists, rounds. -/
import Derived.Test.YtgbfelpdlekbkaaDoorEv5
set_option linter.unusedVariables false
set_option linter.unusedSimpArgs false
namespace Go.Lin

/-! ### rounds -/
theorem go_ind {L ρ : Type} {step : (L → Option ρ) → L → Option ρ} (Inv : L → Prop) (μ : L → Nat) (Post : L → ρ → Prop)
    (h : ∀ (rec : L → Option ρ) l, Inv l → (∀ l', Inv l' → μ l' < μ l → ∃ y, rec l' = some y ∧ Post l' y) → ∃ y, step rec l = some y ∧ Post l y) :
    ∀ n l, Inv l → μ l < n → ∃ y, go step n l = some y ∧ Post l y := by
  intro n
  induction n with
  | zero => intro l _ h; omega
  | succ n ih =>
    intro l hl hm
    exact h _ l hl fun l' hl' hlt => ih l' hl' (by omega)

/-! ### what functions are known to do -/
def Sat {A B : Type} (S : A → Option B) (Pre : A → Prop) (Q : A → B → Prop) : Prop := ∀ x, Pre x → ∃ y, S x = some y ∧ Q x y

theorem Sat.eq {A B : Type} {S : A → Option B} {Pre : A → Prop} {f : A → B} (h : Sat S Pre fun x y => y = f x) {x : A} (hx : Pre x) : S x = some (f x) :=
  let ⟨_, h1, h2⟩ := h x hx
  h1.trans (congrArg some h2)

section
variable [Base] {P : Program} {g : FuncId} {sg : Sig}

def Has [Base] (P : Program) (g : FuncId) (sg : Sig) (Pre : sg.In → Prop) (Q : sg.In → sg.Out → Prop) : Prop := ∃ S, Con P g sg S ∧ Sat S Pre Q

open Classical in
/-- What comes out for some fuel, and is as it should. -/
noncomputable def limS {A B : Type} (S : Nat → A → Option B) (Q : A → B → Prop) (x : A) : Option B := if h : ∃ y, (∃ n, S n x = some y) ∧ Q x y then some h.choose else none

theorem Has.of_go {S : Nat → sg.In → Option sg.Out} {Pre : sg.In → Prop} {Q : sg.In → sg.Out → Prop} (hc : ∀ n, Con P g sg (S n)) (h : ∀ x, Pre x → ∃ n y, S n x = some y ∧ Q x y) : Has P g sg Pre Q := by
  refine ⟨limS S Q, fun x y hy => ?_, fun x hx => ?_⟩
  · unfold limS at hy
    split at hy
    · rename_i hh
      obtain rfl := Option.some.inj hy
      obtain ⟨n, hn⟩ := hh.choose_spec.1
      exact hc n x _ hn
    · cases hy
  · obtain ⟨n, y, hn, hq⟩ := h x hx
    have hh : ∃ y, (∃ n, S n x = some y) ∧ Q x y := ⟨y, ⟨n, hn⟩, hq⟩
    exact ⟨hh.choose, by unfold limS; rw [dif_pos hh], hh.choose_spec.2⟩
open Classical in
theorem Has.of_meets {Pre : sg.In → Prop} {Q : sg.In → sg.Out → Prop} (h : ∀ x, Pre x → ∃ y, Q x y ∧ Meets P g (encs 0 sg.args x).1 (encs 0 sg.args x).2 (sg.enc y).1 (sg.enc y).2) : Has P g sg Pre Q := by
  refine ⟨fun x => if hx : Pre x then some (h x hx).choose else none, fun x y hy => ?_, fun x hx => ⟨(h x hx).choose, dif_pos hx, (h x hx).choose_spec.1⟩⟩
  dsimp only at hy
  split at hy
  · rename_i hx
    obtain rfl := Option.some.inj hy
    exact (h x hx).choose_spec.2
  · cases hy
theorem Has.of {S : sg.In → Option sg.Out} {Pre : sg.In → Prop} {Q : sg.In → sg.Out → Prop} (hc : Con P g sg S) (h : Sat S Pre Q) : Has P g sg Pre Q := ⟨S, hc, h⟩
theorem Has.mono {Pre Pre' : sg.In → Prop} {Q Q' : sg.In → sg.Out → Prop} (h : Has P g sg Pre Q) (hp : ∀ x, Pre' x → Pre x) (hq : ∀ x y, Pre' x → Q x y → Q' x y) : Has P g sg Pre' Q' := by
  obtain ⟨S, hc, hs⟩ := h
  exact ⟨S, hc, fun x hx => let ⟨y, h1, h2⟩ := hs x (hp x hx); ⟨y, h1, hq x y hx h2⟩⟩

/-- Many contracts are one. -/
theorem Has.union {Pre : Nat → sg.In → Prop} {Q : sg.In → sg.Out → Prop} (h : ∀ k, Has P g sg (Pre k) Q) : Has P g sg (fun x => ∃ k, Pre k x) Q := by
  have hc : ∀ k, Con P g sg (h k).choose := fun k => (h k).choose_spec.1
  refine Has.of_go (S := fun k => (h k).choose) hc fun x ⟨k, hx⟩ => ?_
  obtain ⟨y, h1, h2⟩ := (h k).choose_spec.2 x hx
  exact ⟨k, y, h1, h2⟩
theorem Has.none {Q : sg.In → sg.Out → Prop} : Has P g sg (fun _ => False) Q := ⟨fun _ => Option.none, fun _ _ h => (nomatch h), fun _ h => h.elim⟩

/-- A function that calls itself. -/
theorem Has.rec_ {Pre : sg.In → Prop} {Q : sg.In → sg.Out → Prop} (μ : sg.In → Nat)
    (h : ∀ k S, Con P g sg S → Sat S (fun x => Pre x ∧ μ x < k) Q → Has P g sg (fun x => Pre x ∧ μ x < k + 1) Q) : Has P g sg Pre Q := by
  have : ∀ k, Has P g sg (fun x => Pre x ∧ μ x < k) Q := by
    intro k
    induction k with
    | zero => exact Has.none.mono (fun _ h => by omega) fun _ _ h _ => by omega
    | succ k ih =>
      obtain ⟨S, hc, hs⟩ := ih
      exact h k S hc hs
  exact (Has.union this).mono (fun x hx => ⟨μ x + 1, hx, by omega⟩) fun _ _ _ hq => hq
theorem Has.recN {Pre : Nat → sg.In → Prop} {Q : sg.In → sg.Out → Prop} (h0 : ∀ x, ¬ Pre 0 x)
    (h : ∀ k S, Con P g sg S → Sat S (Pre k) Q → Has P g sg (Pre (k + 1)) Q) : Has P g sg (fun x => ∃ k, Pre k x) Q := by
  refine Has.union fun k => ?_
  induction k with
  | zero => exact Has.none (Q := Q) |>.mono (fun x hx => h0 x hx) fun x _ hx _ => (h0 x hx).elim
  | succ k ih =>
    obtain ⟨S, hc, hs⟩ := ih
    exact h k S hc hs
theorem Has.recN2 {g' : FuncId} {sg' : Sig} {Pre : Nat → sg.In → Prop} {Q : sg.In → sg.Out → Prop} {Pre' : Nat → sg'.In → Prop} {Q' : sg'.In → sg'.Out → Prop} (h0 : ∀ x, ¬ Pre 0 x) (h0' : ∀ x, ¬ Pre' 0 x)
    (h : ∀ k S', Con P g' sg' S' → Sat S' (Pre' k) Q' → Has P g sg (Pre (k + 1)) Q)
    (h' : ∀ k S, Con P g sg S → Sat S (Pre k) Q → Has P g' sg' (Pre' (k + 1)) Q') : Has P g sg (fun x => ∃ k, Pre k x) Q ∧ Has P g' sg' (fun x => ∃ k, Pre' k x) Q' := by
  have : ∀ k, Has P g sg (Pre k) Q ∧ Has P g' sg' (Pre' k) Q' := by
    intro k
    induction k with
    | zero => exact ⟨Has.none (Q := Q) |>.mono (fun x hx => h0 x hx) fun x _ hx _ => (h0 x hx).elim, Has.none (Q := Q') |>.mono (fun x hx => h0' x hx) fun x _ hx _ => (h0' x hx).elim⟩
    | succ k ih =>
      obtain ⟨⟨S, hc, hs⟩, S', hc', hs'⟩ := ih
      exact ⟨h k S' hc' hs', h' k S hc hs⟩
  exact ⟨Has.union fun k => (this k).1, Has.union fun k => (this k).2⟩
/-- Two that call each other. -/
theorem Has.rec2 {g' : FuncId} {sg' : Sig} {Pre : sg.In → Prop} {Q : sg.In → sg.Out → Prop} {Pre' : sg'.In → Prop} {Q' : sg'.In → sg'.Out → Prop} (μ : sg.In → Nat) (μ' : sg'.In → Nat)
    (h : ∀ k S', Con P g' sg' S' → Sat S' (fun x => Pre' x ∧ μ' x < k) Q' → Has P g sg (fun x => Pre x ∧ μ x < k + 1) Q)
    (h' : ∀ k S, Con P g sg S → Sat S (fun x => Pre x ∧ μ x < k) Q → Has P g' sg' (fun x => Pre' x ∧ μ' x < k + 1) Q') : Has P g sg Pre Q ∧ Has P g' sg' Pre' Q' := by
  have : ∀ k, Has P g sg (fun x => Pre x ∧ μ x < k) Q ∧ Has P g' sg' (fun x => Pre' x ∧ μ' x < k) Q' := by
    intro k
    induction k with
    | zero => exact ⟨Has.none.mono (fun _ h => by omega) fun _ _ h _ => by omega, Has.none.mono (fun _ h => by omega) fun _ _ h _ => by omega⟩
    | succ k ih =>
      obtain ⟨⟨S, hc, hs⟩, S', hc', hs'⟩ := ih
      exact ⟨h k S' hc' hs', h' k S hc hs⟩
  exact ⟨(Has.union fun k => (this k).1).mono (fun x hx => ⟨μ x + 1, hx, by omega⟩) fun _ _ _ hq => hq,
    (Has.union fun k => (this k).2).mono (fun x hx => ⟨μ' x + 1, hx, by omega⟩) fun _ _ _ hq => hq⟩
end

/-! ### numbers -/
theorem wrap64 (x : Int) : IntKind.wrap .i64 x = if x % 18446744073709551616 ≥ 9223372036854775808 then x % 18446744073709551616 - 18446744073709551616 else x % 18446744073709551616 := by
  simp [IntKind.wrap, IntKind.bits, IntKind.signed]
theorem w64 {x : Int} (h1 : -9223372036854775808 ≤ x) (h2 : x < 9223372036854775808) : IntKind.wrap .i64 x = x := by
  rw [wrap64]
  omega
theorem wrap8 (x : Int) : IntKind.wrap .u8 x = x % 256 := by
  simp [IntKind.wrap, IntKind.bits, IntKind.signed]

/-! ### bytes -/
theorem toList_data (s : ByteArray) : s.toList = s.data.toList := by
  have loop : ∀ (n i : Nat) (r : List UInt8), s.size - i = n → ByteArray.toList.loop s i r = r.reverse ++ s.data.toList.drop i := by
    intro n
    induction n with
    | zero =>
      intro i r h
      unfold ByteArray.toList.loop
      have : ¬ i < s.size := by omega
      rw [if_neg this, List.drop_of_length_le (by simpa using (by omega : s.size ≤ i)), List.append_nil]
    | succ n ih =>
      intro i r h
      unfold ByteArray.toList.loop
      have hi : i < s.size := by omega
      rw [if_pos hi, ih (i + 1) _ (by omega)]
      have hi' : i < s.data.toList.length := by simpa using hi
      rw [List.drop_eq_getElem_cons hi']
      have : s.get! i = s.data.toList[i] := by
        have : i < s.data.size := hi
        show s.data[i]! = _
        rw [getElem!_pos s.data i this]
        simp
      simp [this]
  have := loop s.size 0 [] (by omega)
  simpa [ByteArray.toList] using this

/-- A text's bytes. -/
abbrev by_ (s : ByteArray) : List UInt8 := s.data.toList
theorem by_inj {s t : ByteArray} (h : by_ s = by_ t) : s = t := by
  cases s; cases t
  simp only [by_] at h
  congr
  exact Array.ext' h
theorem seq_eq (s t : ByteArray) : seq_ s t = decide (s = t) := by
  unfold seq_
  rw [toList_data, toList_data]
  rcases Decidable.em (s = t) with h | h
  · subst h; simp
  · have : ¬ by_ s = by_ t := fun e => h (by_inj e)
    rw [decide_eq_false h]
    exact beq_eq_false_iff_ne.2 this
theorem by_len (s : ByteArray) : (by_ s).length = s.size := Array.length_toList
theorem by_app (s t : ByteArray) : by_ (s ++ t) = by_ s ++ by_ t := by simp [by_]
theorem by_ext (s : ByteArray) (a b : Nat) : by_ (s.extract a b) = ((by_ s).take b).drop a := by
  simp only [by_, ByteArray.data_extract, Array.toList_extract, List.extract_eq_take_drop, List.drop_take]
theorem bt_at {s : ByteArray} {i : Nat} (h : i < s.size) : bt s (i : Int) = (((by_ s)[i]'(by rw [by_len]; exact h)).toNat : Int) := by
  unfold bt
  rw [dif_pos (by simpa using h)]
  rfl
theorem slt_eq (s t : ByteArray) : slt s t = Op.bytesLess (by_ s) (by_ t) := by
  unfold slt
  rw [toList_data, toList_data]
end Go.Lin
