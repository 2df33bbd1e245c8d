/- Names. -/
import Derived.Test.YtgbfelpdlekbkaaDoorFv1
import Derived.Test.YtgbfelpdlekbkaaDoorLinF0
import Derived.Test.YtgbfelpdlekbkaaDoorLinF1
import Derived.Test.YtgbfelpdlekbkaaDoorLinF2
import Derived.Test.YtgbfelpdlekbkaaDoorLinF3
import Derived.Test.YtgbfelpdlekbkaaDoorLinF4
import Derived.Test.YtgbfelpdlekbkaaDoorLinF5
import Derived.Below
import Derived.Lib.ReplaceLaws
import Derived.Lib.Join
import Derived.Lib.IndexAny
import Derived.Lib.SplitLaws
import Derived.Lib.IndexBytes
import Derived.Lib.IndexLaws
set_option linter.unusedVariables false
set_option linter.unusedSimpArgs false
section
namespace Go.Lin
def inR (a b : Nat) (c : UInt8) : Bool := decide (a ≤ c.toNat) && decide (c.toNat ≤ b)
def isNameC (c : UInt8) : Bool := inR 97 122 c || inR 48 57 c || c.toNat == 45
abbrev between (x : Int × Int × Int) : Bool := decide (x.2.1 ≤ x.1) && decide (x.1 ≤ x.2.2)
abbrev small (s : ByteArray) : Prop := s.size < 4294967296
abbrev smalls (l : List ByteArray) : Prop := l.length < 4294967296 ∧ ∀ s ∈ l, small s
def textOk (s : ByteArray) : Bool := (by_ s).all (inR 32 126) && decide (s.size ≤ 100)
def nameEnds (s : ByteArray) : Bool := decide (1 ≤ s.size) && decide (s.size ≤ 20) && !(bt s 0 == 45) && !(bt s ((s.size : Int) - 1) == 45)
def nameOk (s : ByteArray) : Bool := (by_ s).all isNameC && nameEnds s
end Go.Lin
namespace Go.Proofs.YtgbfelpdlekbkaaDoor
open Go Go.Proofs Go.Lin

theorem l1In_body (a b c : Int) : spec_l1In.body a b c = some (between (a, b, c), ()) := by
  unfold spec_l1In.body between
  cases decide (b ≤ a) <;> rfl
theorem has_l1In : Has Tryd.prog 41 sg_spec_l1In (fun _ => True) (fun x y => y = (between x, ())) :=
  Has.of spec_l1In.con fun (a, b, c) _ => ⟨_, l1In_body a b c, rfl⟩
theorem has_within : Has Tryd.prog 67 sg_impl_within (fun _ => True) (fun x y => y = (between x, ())) :=
  Has.of impl_within.con fun (a, b, c) _ => ⟨_, l1In_body a b c, rfl⟩

theorem byte_lt (c : UInt8) : c.toNat < 256 := c.toNat_lt
theorem bt_le (s : ByteArray) (i : Int) : 0 ≤ bt s i ∧ bt s i < 256 := by
  unfold bt
  split
  · rename_i h
    have := byte_lt s[i.toNat]
    omega
  · omega
theorem wbt (s : ByteArray) (i : Int) : IntKind.wrap .i64 (bt s i) = bt s i := by
  have := bt_le s i
  exact w64 (by omega) (by omega)

theorem drop_cons {α : Type} {l : List α} {i : Nat} (h : i < l.length) : l.drop i = l[i] :: l.drop (i + 1) := List.drop_eq_getElem_cons h
theorem wc (c : UInt8) : IntKind.wrap .i64 (c.toNat : Int) = c.toNat := by
  have := byte_lt c
  exact w64 (by omega) (by omega)
theorem wi {i n : Nat} (h : i < n) (hn : n < 9223372036854775807) : IntKind.wrap .i64 ((i : Int) + 1) = (i : Int) + 1 := w64 (by omega) (by omega)
theorem wpred {n : Nat} (h : 0 < n) (hn : n < 9223372036854775807) : IntKind.wrap .i64 ((n : Int) - 1) = (n : Int) - 1 := w64 (by omega) (by omega)
theorem between_c (c : UInt8) (a b : Nat) : between ((c.toNat : Int), (a : Int), (b : Int)) = inR a b c := by
  unfold between inR
  congr 1 <;> (rw [decide_eq_decide]; dsimp only; omega)

theorem spec_NameOk_loop {S : Int × Int × Int → Option (Bool × Unit)} (hS : ∀ x, S x = some (between x, ())) (s : ByteArray) (hs : s.size < 4294967296) :
    ∀ (n i : Nat), i ≤ s.size → s.size - i < n → go (spec_NameOk.step S) n (.L0 s (i : Int)) = some (((by_ s).drop i).all isNameC && nameEnds s, ()) := by
  intro n
  induction n with
  | zero => intro i _ h; omega
  | succ n ih =>
    intro i hi hn
    show spec_NameOk.step S (go (spec_NameOk.step S) n) (.L0 s (i : Int)) = _
    rcases Nat.lt_or_ge i s.size with hlt | hge
    · have hb : i < (by_ s).length := by rw [by_len]; exact hlt
      rw [drop_cons hb, List.all_cons]
      have hbt := bt_at hlt
      generalize hc : (by_ s)[i] = c at *
      have ih' := ih (i + 1) (by omega) (by omega)
      have h1 := between_c c 97 122
      have h2 := between_c c 48 57
      have h3 : ((c.toNat : Int) != 45) = !(c.toNat == 45) := by
        rw [Bool.eq_iff_iff]
        simp
        omega
      push_cast at ih'
      simp only [Int.cast_ofNat_Int] at h1 h2
      simp only [spec_NameOk.step, hlt, hS, hbt, wc, wi hlt (by omega), h1, h2, h3, ih', isNameC, Int.ofNat_lt, decide_true, cond_true, Option.bind_some, Int.natCast_nonneg]
      cases inR 97 122 c <;> cases inR 48 57 c <;> cases c.toNat == 45 <;> simp
    · obtain rfl : i = s.size := by omega
      rw [List.drop_of_length_le (by rw [by_len]; exact Nat.le_refl _)]
      have hlt : ¬ (s.size : Int) < s.size := by omega
      have h1 : between ((s.size : Int), 1, 20) = (decide (1 ≤ s.size) && decide (s.size ≤ 20)) := by
        unfold between
        congr 1 <;> (rw [decide_eq_decide]; dsimp only; omega)
      simp only [spec_NameOk.step, hS, h1, hlt, decide_false, cond_false, Option.bind_some, List.all_nil, Bool.true_and, nameEnds]
      rcases Decidable.em (1 ≤ s.size ∧ s.size ≤ 20) with ⟨h2, h3⟩ | h2
      · have h4 : (0 : Int) < s.size := by omega
        have h5 : (0 : Int) ≤ (s.size : Int) - 1 := by omega
        have h6 : (s.size : Int) - 1 < s.size := by omega
        simp only [wpred (show 0 < s.size by omega) (by omega), h2, h3, h4, h5, h6, decide_true, cond_true, Bool.and_self, Bool.true_and, bne]
        cases bt s 0 == 45 <;> simp
      · rcases Decidable.em (1 ≤ s.size) with h3 | h3
        · have h4 : ¬ s.size ≤ 20 := fun h => h2 ⟨h3, h⟩
          simp [h4]
        · simp [h3]

theorem nameEnds_tail (s : ByteArray) (hs : s.size < 4294967296) : ∀ {A : Option (Bool × Unit)},
    A = (bif decide (1 ≤ s.size) && decide (s.size ≤ 20) then
      bif (decide ((0 : Int) < (s.size : Int))) then
      bif ((bt s 0) != 45) then (
        bif (decide (0 ≤ (IntKind.wrap .i64 ((s.size : Int) - 1)))) then
        bif (decide ((IntKind.wrap .i64 ((s.size : Int) - 1)) < (s.size : Int))) then
        some (((bt s (IntKind.wrap .i64 ((s.size : Int) - 1))) != 45), ()) else none else none) else
      some (false, ()) else none else some (false, ())) → A = some (nameEnds s, ()) := by
  rintro A rfl
  unfold nameEnds
  rcases Decidable.em (1 ≤ s.size ∧ s.size ≤ 20) with ⟨h2, h3⟩ | h2
  · have h4 : (0 : Int) < s.size := by omega
    have h5 : (0 : Int) ≤ (s.size : Int) - 1 := by omega
    have h6 : (s.size : Int) - 1 < s.size := by omega
    simp only [wpred (show 0 < s.size by omega) (by omega), h2, h3, h4, h5, h6, decide_true, cond_true, Bool.and_self, Bool.true_and, bne]
    cases bt s 0 == 45 <;> simp
  · rcases Decidable.em (1 ≤ s.size) with h3 | h3
    · have h4 : ¬ s.size ≤ 20 := fun h => h2 ⟨h3, h⟩
      simp [h4]
    · simp [h3]
theorem between_len (n : Nat) (a b : Nat) : between ((n : Int), (a : Int), (b : Int)) = (decide (a ≤ n) && decide (n ≤ b)) := by
  unfold between
  congr 1 <;> (rw [decide_eq_decide]; dsimp only; omega)

theorem impl_NameOk_loop {S : Int × Int × Int → Option (Bool × Unit)} (hS : ∀ x, S x = some (between x, ())) (s : ByteArray) (hs : s.size < 4294967296) :
    ∀ (n i : Nat), i ≤ s.size → s.size - i < n → go (impl_NameOk.step S) n (.L0 s (s.size : Int) (i : Int)) = some (((by_ s).drop i).all isNameC && nameEnds s, ()) := by
  intro n
  induction n with
  | zero => intro i _ h; omega
  | succ n ih =>
    intro i hi hn
    show impl_NameOk.step S (go (impl_NameOk.step S) n) (.L0 s (s.size : Int) (i : Int)) = _
    rcases Nat.lt_or_ge i s.size with hlt | hge
    · have hb : i < (by_ s).length := by rw [by_len]; exact hlt
      rw [drop_cons hb, List.all_cons]
      have hbt := bt_at hlt
      generalize hc : (by_ s)[i] = c at *
      have ih' := ih (i + 1) (by omega) (by omega)
      have h3 : ((c.toNat : Int) != 45) = !(c.toNat == 45) := by
        rw [Bool.eq_iff_iff]
        simp
        omega
      have k1 : decide ((c.toNat : Int) < 97) = !decide (97 ≤ c.toNat) := by rw [Bool.eq_iff_iff]; simp; omega
      have k2 : decide (122 < (c.toNat : Int)) = !decide (c.toNat ≤ 122) := by rw [Bool.eq_iff_iff]; simp; omega
      have k3 : decide ((c.toNat : Int) < 48) = !decide (48 ≤ c.toNat) := by rw [Bool.eq_iff_iff]; simp; omega
      have k4 : decide (57 < (c.toNat : Int)) = !decide (c.toNat ≤ 57) := by rw [Bool.eq_iff_iff]; simp; omega
      push_cast at ih'
      simp only [impl_NameOk.step, hlt, hbt, wi hlt (by omega), h3, k1, k2, k3, k4, ih', isNameC, inR, Int.ofNat_lt, decide_true, cond_true, Int.natCast_nonneg]
      cases decide (97 ≤ c.toNat) <;> cases decide (c.toNat ≤ 122) <;> cases decide (48 ≤ c.toNat) <;> cases decide (c.toNat ≤ 57) <;> cases c.toNat == 45 <;> simp
    · obtain rfl : i = s.size := by omega
      rw [List.drop_of_length_le (by rw [by_len]; exact Nat.le_refl _)]
      have hlt : ¬ (s.size : Int) < s.size := by omega
      have h1 := between_len s.size 1 20
      simp only [Int.cast_ofNat_Int] at h1
      refine nameEnds_tail s hs ?_
      simp only [impl_NameOk.step, hS, h1, hlt, decide_false, cond_false, Option.bind_some]

theorem has_spec_NameOk : Has Tryd.prog 66 sg_spec_NameOk small (fun s y => y = (nameOk s, ())) := by
  obtain ⟨S, hc, hS⟩ := has_l1In
  have hS : ∀ x, S x = some (between x, ()) := fun x => hS.eq trivial
  exact Has.of_go (spec_NameOk.con S hc) fun s hs => ⟨s.size + 1, _, spec_NameOk_loop hS s hs _ 0 (by omega) (by omega), rfl⟩
theorem has_impl_NameOk : Has Tryd.prog 80 sg_impl_NameOk small (fun s y => y = (nameOk s, ())) := by
  obtain ⟨S, hc, hS⟩ := has_within
  have hS : ∀ x, S x = some (between x, ()) := fun x => hS.eq trivial
  exact Has.of_go (impl_NameOk.con S hc) fun s hs => ⟨s.size + 1, _, impl_NameOk_loop hS s hs _ 0 (by omega) (by omega), rfl⟩
end Go.Proofs.YtgbfelpdlekbkaaDoor
end

/- Lists of names. -/
section
namespace Go.Lin
def keysFrom : Option ByteArray → List ByteArray → Bool
  | _, [] => true
  | p, a :: r => nameOk a && (match p with | none => true | some q => slt q a) && keysFrom (some a) r
theorem keysFrom_nil (p : Option ByteArray) : keysFrom p [] = true := by cases p <;> rfl
theorem keysFrom_cons (p : Option ByteArray) (a : ByteArray) (r : List ByteArray) : keysFrom p (a :: r) = (nameOk a && (match p with | none => true | some q => slt q a) && keysFrom (some a) r) := by cases p <;> rfl
def keysOk (l : List ByteArray) : Bool := keysFrom none l
def prevOf (l : List ByteArray) : Nat → Option ByteArray
  | 0 => none
  | i + 1 => l[i]?
theorem getD_at {α : Type} {l : List α} {i : Nat} (h : i < l.length) (d : α) : l.getD i d = l[i] := by simp [List.getD_eq_getElem?_getD, h]
theorem toNat_pred (i : Nat) : ((i : Int) - 1).toNat = i - 1 := by omega
end Go.Lin
namespace Go.Proofs.YtgbfelpdlekbkaaDoor
open Go Go.Proofs Go.Lin

theorem impl_namesOk_loop {S : ByteArray → Option (Bool × Unit)} (l : List ByteArray) (most : Int) (hS : ∀ x ∈ l, S x = some (nameOk x, ())) (hs : l.length < 4294967296) :
    ∀ (n i : Nat), i ≤ l.length → l.length - i < n → go (impl_namesOk.step S) n (.L0 l most l (l.length : Int) (i : Int)) = some (keysFrom (prevOf l i) (l.drop i) && decide ((l.length : Int) ≤ most), ()) := by
  intro n
  induction n with
  | zero => intro i _ h; omega
  | succ n ih =>
    intro i hi hn
    show impl_namesOk.step S (go (impl_namesOk.step S) n) (.L0 l most l (l.length : Int) (i : Int)) = _
    rcases Nat.lt_or_ge i l.length with hlt | hge
    · rw [drop_cons hlt, keysFrom_cons]
      have ih' := ih (i + 1) (by omega) (by omega)
      have hp : prevOf l (i + 1) = some l[i] := by simp [prevOf, hlt]
      rw [hp] at ih'
      push_cast at ih'
      simp only [impl_namesOk.step, hlt, wi hlt (by omega), ih', Int.ofNat_lt, decide_true, cond_true, Int.natCast_nonneg, Int.toNat_natCast, getD_at hlt, hS _ (List.getElem_mem hlt), Option.bind_some]
      cases nameOk l[i]
      · simp
      · simp only [Bool.not_true, cond_false, Bool.true_and]
        rcases Nat.eq_zero_or_pos i with rfl | h0
        · simp [prevOf]
        · have hlt' : i - 1 < l.length := by omega
          have h1 : (0 : Int) < i := by omega
          have h2 : (0 : Int) ≤ (i : Int) - 1 := by omega
          have h3 : (i : Int) - 1 < l.length := by omega
          have hq : prevOf l i = some l[i - 1] := by
            obtain ⟨j, rfl⟩ : ∃ j, i = j + 1 := ⟨i - 1, by omega⟩
            simp [prevOf, show j < l.length by omega]
          simp only [hq, h1, wpred h0 (show i < 9223372036854775807 by omega), h2, h3, decide_true, cond_true, toNat_pred, getD_at hlt']
          cases slt l[i - 1] l[i] <;> simp
    · obtain rfl : i = l.length := by omega
      rw [List.drop_length, keysFrom_nil]
      have hlt : ¬ (l.length : Int) < l.length := by omega
      simp only [impl_namesOk.step, hlt, decide_false, cond_false, Bool.true_and]


theorem has_namesOk : Has Tryd.prog 68 sg_impl_namesOk (fun x => smalls x.1) (fun x y => y = (keysOk x.1 && decide ((x.1.length : Int) ≤ x.2), ())) := by
  obtain ⟨S, hc, hS⟩ := has_impl_NameOk
  exact Has.of_go (impl_namesOk.con S hc) fun (l, m) hs => ⟨l.length + 1, _, impl_namesOk_loop l m (fun x hx => hS.eq (hs.2 x hx)) hs.1 _ 0 (by omega) (by omega), rfl⟩

theorem spec_l4Keys_loop {S : ByteArray → Option (Bool × Unit)} (l : List ByteArray) (k : Int) (t : ByteArray) (m : Int) (ks : List GVal) (hS : ∀ x ∈ l, S x = some (nameOk x, ())) (hs : l.length < 4294967296) :
    ∀ (n i : Nat), i ≤ l.length → l.length - i < n → go (spec_l4Keys.step S) n (.L0 (i : Int) k t m l ks) = some (keysFrom (prevOf l i) (l.drop i) && ((l.length : Int) == (ks.length : Int)), ()) := by
  intro n
  induction n with
  | zero => intro i _ h; omega
  | succ n ih =>
    intro i hi hn
    show spec_l4Keys.step S (go (spec_l4Keys.step S) n) (.L0 (i : Int) k t m l ks) = _
    rcases Nat.lt_or_ge i l.length with hlt | hge
    · rw [drop_cons hlt, keysFrom_cons]
      have ih' := ih (i + 1) (by omega) (by omega)
      have hp : prevOf l (i + 1) = some l[i] := by simp [prevOf, hlt]
      rw [hp] at ih'
      push_cast at ih'
      simp only [spec_l4Keys.step, hlt, wi hlt (by omega), ih', Int.ofNat_lt, decide_true, cond_true, Int.natCast_nonneg, Int.toNat_natCast, getD_at hlt, hS _ (List.getElem_mem hlt), Option.bind_some]
      cases nameOk l[i]
      · simp
      · simp only [Bool.not_true, cond_false, Bool.true_and]
        rcases Nat.eq_zero_or_pos i with rfl | h0
        · simp [prevOf]
        · have hlt' : i - 1 < l.length := by omega
          have h1 : (0 : Int) < i := by omega
          have h2 : (0 : Int) ≤ (i : Int) - 1 := by omega
          have h3 : (i : Int) - 1 < l.length := by omega
          have hq : prevOf l i = some l[i - 1] := by
            obtain ⟨j, rfl⟩ : ∃ j, i = j + 1 := ⟨i - 1, by omega⟩
            simp [prevOf, show j < l.length by omega]
          simp only [hq, h1, wpred h0 (show i < 9223372036854775807 by omega), h2, h3, decide_true, cond_true, toNat_pred, getD_at hlt']
          cases slt l[i - 1] l[i] <;> simp
    · obtain rfl : i = l.length := by omega
      rw [List.drop_length, keysFrom_nil]
      have hlt : ¬ (l.length : Int) < l.length := by omega
      simp only [spec_l4Keys.step, hlt, decide_false, cond_false, Bool.true_and]
theorem has_l4Keys : Has Tryd.prog 42 sg_spec_l4Keys (fun x => smalls x.keys) (fun x y => y = (keysOk x.keys && decide (x.keys.length = x.kids.length), ())) := by
  obtain ⟨S, hc, hS⟩ := has_spec_NameOk
  refine Has.of_go (spec_l4Keys.con S hc) fun v hs => ⟨v.keys.length + 1, _, spec_l4Keys_loop v.keys _ _ _ v.kids (fun x hx => hS.eq (hs.2 x hx)) hs.1 _ 0 (by omega) (by omega), ?_⟩
  have : ((v.keys.length : Int) == (v.kids.length : Int)) = decide (v.keys.length = v.kids.length) := by
    rw [Bool.eq_iff_iff]
    simp only [beq_iff_eq, decide_eq_true_eq]
    omega
  rw [this]
  rfl

theorem spec_l4Text_loop {S : Int × Int × Int → Option (Bool × Unit)} (hS : ∀ x, S x = some (between x, ())) (s : ByteArray) (hs : s.size < 4294967296) :
    ∀ (n i : Nat), i ≤ s.size → s.size - i < n → go (spec_l4Text.step S) n (.L0 s (i : Int)) = some (((by_ s).drop i).all (inR 32 126) && decide (s.size ≤ 100), ()) := by
  intro n
  induction n with
  | zero => intro i _ h; omega
  | succ n ih =>
    intro i hi hn
    show spec_l4Text.step S (go (spec_l4Text.step S) n) (.L0 s (i : Int)) = _
    rcases Nat.lt_or_ge i s.size with hlt | hge
    · have hb : i < (by_ s).length := by rw [by_len]; exact hlt
      rw [drop_cons hb, List.all_cons]
      have hbt := bt_at hlt
      generalize hc : (by_ s)[i] = c at *
      have ih' := ih (i + 1) (by omega) (by omega)
      have h1 := between_c c 32 126
      push_cast at ih'
      simp only [Int.cast_ofNat_Int] at h1
      simp only [spec_l4Text.step, hlt, hS, hbt, wc, wi hlt (by omega), h1, ih', Int.ofNat_lt, decide_true, cond_true, Option.bind_some, Int.natCast_nonneg]
      cases inR 32 126 c <;> simp
    · obtain rfl : i = s.size := by omega
      rw [List.drop_of_length_le (by rw [by_len]; exact Nat.le_refl _)]
      have hlt : ¬ (s.size : Int) < s.size := by omega
      have h1 : decide ((s.size : Int) ≤ 100) = decide (s.size ≤ 100) := by rw [decide_eq_decide]; omega
      simp only [spec_l4Text.step, hlt, h1, decide_false, cond_false, List.all_nil, Bool.true_and]

theorem has_l4Text : Has Tryd.prog 40 sg_spec_l4Text small (fun s y => y = (textOk s, ())) := by
  obtain ⟨S, hc, hS⟩ := has_l1In
  have hS : ∀ x, S x = some (between x, ()) := fun x => hS.eq trivial
  exact Has.of_go (spec_l4Text.con S hc) fun s hs => ⟨s.size + 1, _, spec_l4Text_loop hS s hs _ 0 (by omega) (by omega), rfl⟩
end Go.Proofs.YtgbfelpdlekbkaaDoor
end

/- Values: their shape and size. -/
section
namespace Go.Lin
def shapeV (v : GVal) : Bool :=
  bif v.kind == 1 then textOk v.text && ((v.num == 0) && (((v.keys.length : Int) == 0) && ((v.kids.length : Int) == 0))) else
  bif v.kind == 2 then seq_ v.text (bs []) && (((v.keys.length : Int) == 0) && ((v.kids.length : Int) == 0)) else
  bif v.kind == 3 then seq_ v.text (bs []) && (between (v.num, 0, 1) && (((v.keys.length : Int) == 0) && ((v.kids.length : Int) == 0))) else
  bif v.kind == 4 then seq_ v.text (bs []) && ((v.num == 0) && ((v.keys.length : Int) == 0)) else
  bif v.kind == 5 then keysOk v.keys && decide (v.keys.length = v.kids.length) && (seq_ v.text (bs []) && (v.num == 0)) else false
def sumK (f : GVal → Nat) : List GVal → Nat → Nat
  | [], n => n
  | k :: r, n => if f k = 0 ∨ 300 < n + f k then 0 else sumK f r (n + f k)
/-- A value's size; 0: it is not right, or deeper than d. -/
def vsize : Nat → GVal → Nat
  | 0, _ => 0
  | d + 1, v => if shapeV v then sumK (vsize d) v.kids 1 else 0

/-- Bounds, and a height. -/
def Bnd : Nat → GVal → Prop
  | 0, _ => False
  | h + 1, v => small v.text ∧ smalls v.keys ∧ v.kids.length < 4294967296 ∧ (-9223372036854775808 ≤ v.num ∧ v.num < 9223372036854775808) ∧ ∀ k ∈ v.kids, Bnd h k
def Fine (v : GVal) : Prop := ∃ h, Bnd h v
theorem Fine.parts {v : GVal} (hv : Fine v) : small v.text ∧ smalls v.keys ∧ v.kids.length < 4294967296 ∧ (-9223372036854775808 ≤ v.num ∧ v.num < 9223372036854775808) ∧ ∀ k ∈ v.kids, Fine k := by
  obtain ⟨h, hv⟩ := hv
  cases h with
  | zero => exact hv.elim
  | succ h => exact ⟨hv.1, hv.2.1, hv.2.2.1, hv.2.2.2.1, fun k hk => ⟨h, hv.2.2.2.2 k hk⟩⟩

theorem sumK_le {f : GVal → Nat} {l : List GVal} {n : Nat} (hn : n ≤ 300) : sumK f l n ≤ 300 := by
  induction l generalizing n with
  | nil => exact hn
  | cons k r ih =>
    unfold sumK
    split
    · omega
    · exact ih (by omega)
theorem sumK_len {f : GVal → Nat} {l : List GVal} {n : Nat} (hn : n ≤ 300) (h : sumK f l n ≠ 0) : l.length + n ≤ 300 := by
  induction l generalizing n with
  | nil => simpa using hn
  | cons k r ih =>
    unfold sumK at h
    split at h
    · exact absurd rfl h
    · have := ih (n := n + f k) (by omega) h
      simp only [List.length_cons]
      omega
theorem vsize_le (d : Nat) (v : GVal) : vsize d v ≤ 300 := by
  cases d with
  | zero => simp [vsize]
  | succ d =>
    unfold vsize
    split
    · exact sumK_le (by omega)
    · omega
end Go.Lin
namespace Go.Proofs.YtgbfelpdlekbkaaDoor
open Go Go.Proofs Go.Lin

/-- What the program asks beside. -/
def shapeI (v : GVal) : Bool := shapeV v && (!(v.kind == 5) || decide (v.keys.length ≤ 300))

theorem impl_shapeOk_loop {S : Int × Int × Int → Option (Bool × Unit)} {S2 : List ByteArray × Int → Option (Bool × Unit)} (hS : ∀ x, S x = some (between x, ())) (a b c : Bool) (k : Int) (s : ByteArray) (m : Int) (ks : List ByteArray) (kids : List GVal) (hs : s.size < 4294967296) :
    ∀ (n i : Nat), i ≤ s.size → s.size - i < n → go (impl_shapeOk.step S S2) n (.L0 a b c (s.size : Int) (i : Int) k s m ks kids) = some (((by_ s).drop i).all (inR 32 126) && decide (s.size ≤ 100) && (a && (b && c)), ()) := by
  intro n
  induction n with
  | zero => intro i _ h; omega
  | succ n ih =>
    intro i hi hn
    show impl_shapeOk.step S S2 (go (impl_shapeOk.step S S2) n) (.L0 a b c (s.size : Int) (i : Int) k s m ks kids) = _
    rcases Nat.lt_or_ge i s.size with hlt | hge
    · have hb : i < (by_ s).length := by rw [by_len]; exact hlt
      rw [drop_cons hb, List.all_cons]
      have hbt := bt_at hlt
      generalize hc : (by_ s)[i] = x at *
      have ih' := ih (i + 1) (by omega) (by omega)
      have h1 := between_c x 32 126
      push_cast at ih'
      simp only [Int.cast_ofNat_Int] at h1
      simp only [impl_shapeOk.step, hlt, hS, hbt, wc, wi hlt (by omega), h1, ih', Int.ofNat_lt, decide_true, cond_true, Option.bind_some, Int.natCast_nonneg]
      cases inR 32 126 x <;> simp
    · obtain rfl : i = s.size := by omega
      rw [List.drop_of_length_le (by rw [by_len]; exact Nat.le_refl _)]
      have hlt : ¬ (s.size : Int) < s.size := by omega
      have h1 : decide ((s.size : Int) ≤ 100) = decide (s.size ≤ 100) := by rw [decide_eq_decide]; omega
      simp only [impl_shapeOk.step, hlt, h1, decide_false, cond_false, List.all_nil, Bool.true_and]
      cases decide (s.size ≤ 100) <;> cases a <;> cases b <;> simp

theorem len_eq (a b : Nat) : ((a : Int) == (b : Int)) = decide (a = b) := by
  rw [Bool.eq_iff_iff]
  simp only [beq_iff_eq, decide_eq_true_eq]
  omega
theorem shapeOk_body {S : Int × Int × Int → Option (Bool × Unit)} {S2 : List ByteArray × Int → Option (Bool × Unit)} (hS : ∀ x, S x = some (between x, ())) {v : GVal} (hv : Fine v)
    (hn : S2 (v.keys, 300) = some (keysOk v.keys && decide ((v.keys.length : Int) ≤ 300), ())) : impl_shapeOk.body S S2 (go (impl_shapeOk.step S S2) (v.text.size + 1)) v = some (shapeI v, ()) := by
  obtain ⟨h1, h2, h3, h4, h5⟩ := hv.parts
  have hloop := fun a b c => impl_shapeOk_loop (S2 := S2) hS a b c v.kind v.text v.num v.keys v.kids h1 (v.text.size + 1) 0 (by omega) (by omega)
  simp only [Int.cast_ofNat_Int, List.drop_zero] at hloop
  have h6 : decide ((v.keys.length : Int) ≤ 300) = decide (v.keys.length ≤ 300) := by rw [decide_eq_decide]; omega
  simp only [impl_shapeOk.body, hloop, hn, hS, shapeI, shapeV, Option.bind_some, h6, len_eq v.keys.length v.kids.length, textOk]
  rcases Decidable.em (v.kind = 1) with e | e1
  · simp [e]
  rcases Decidable.em (v.kind = 2) with e | e2
  · simp only [e]
    cases seq_ v.text (bs []) <;> cases ((v.keys.length : Int) == 0) <;> simp
  rcases Decidable.em (v.kind = 3) with e | e3
  · simp only [e]
    cases seq_ v.text (bs []) <;> cases ((v.keys.length : Int) == 0) <;> cases between (v.num, 0, 1) <;> simp
  rcases Decidable.em (v.kind = 4) with e | e4
  · simp only [e]
    cases seq_ v.text (bs []) <;> cases ((v.keys.length : Int) == 0) <;> cases v.num == 0 <;> simp
  rcases Decidable.em (v.kind = 5) with e | e5
  · simp only [e]
    cases seq_ v.text (bs []) <;> cases keysOk v.keys <;> cases v.num == 0 <;> cases decide (v.keys.length = v.kids.length) <;> cases decide (v.keys.length ≤ 300) <;> simp
  · have f1 : (v.kind == 1) = false := beq_eq_false_iff_ne.2 e1
    have f2 : (v.kind == 2) = false := beq_eq_false_iff_ne.2 e2
    have f3 : (v.kind == 3) = false := beq_eq_false_iff_ne.2 e3
    have f4 : (v.kind == 4) = false := beq_eq_false_iff_ne.2 e4
    have f5 : (v.kind == 5) = false := beq_eq_false_iff_ne.2 e5
    simp [f1, f2, f3, f4, f5]
theorem has_shapeOk : Has Tryd.prog 43 sg_impl_shapeOk Fine (fun v y => y = (shapeI v, ())) := by
  obtain ⟨S, hc, hS⟩ := has_within
  obtain ⟨S2, hc2, hS2⟩ := has_namesOk
  exact Has.of_go (impl_shapeOk.con S S2 hc hc2) fun v hv => ⟨v.text.size + 1, _, shapeOk_body (fun x => hS.eq trivial) hv (hS2.eq (x := (v.keys, 300)) hv.parts.2.1), rfl⟩
end Go.Proofs.YtgbfelpdlekbkaaDoor
end

/- Values: sizes. -/
section
namespace Go.Lin
def msrK (r : Nat) : Int := if r = 0 then 301 else (r : Int)
def msr (d : Nat) (v : GVal) : Int := msrK (vsize d v)
theorem vsize_wide {d : Nat} {v : GVal} (h : 300 ≤ v.kids.length) : vsize d v = 0 := by
  cases d with
  | zero => rfl
  | succ d =>
    unfold vsize
    split
    · rcases Nat.eq_zero_or_pos (sumK (vsize d) v.kids 1) with h0 | h0
      · exact h0
      · have := sumK_len (f := vsize d) (l := v.kids) (n := 1) (by omega) (by omega)
        omega
    · rfl
end Go.Lin
namespace Go.Proofs.YtgbfelpdlekbkaaDoor
open Go Go.Proofs Go.Lin

theorem measured_loop {S : GVal × Int → Option (Int × Unit)} {S2 : GVal → Option (Bool × Unit)} (d : Nat) (hd : d ≤ 100) (kids : List GVal) (hS : ∀ k ∈ kids, S (k, (d : Int)) = some (msr d k, ())) (hs : kids.length < 4294967296) :
    ∀ (n i m : Nat), i ≤ kids.length → kids.length - i < n → 1 ≤ m → m ≤ 300 → go (impl_measured.step S S2) n (.L0 ((d + 1 : Nat) : Int) (m : Int) kids (kids.length : Int) (i : Int)) = some (msrK (sumK (vsize d) (kids.drop i) m), ()) := by
  intro n
  induction n with
  | zero => intro i m _ h; omega
  | succ n ih =>
    intro i m hi hn hm1 hm2
    show impl_measured.step S S2 (go (impl_measured.step S S2) n) _ = _
    rcases Nat.lt_or_ge i kids.length with hlt | hge
    · rw [drop_cons hlt, sumK]
      have hk := hS _ (List.getElem_mem hlt)
      have hw : IntKind.wrap .i64 (((d + 1 : Nat) : Int) - 1) = (d : Int) := by
        rw [w64 (by omega) (by omega)]; omega
      have hle := vsize_le d kids[i]
      simp only [impl_measured.step, re_eq, hlt, hw, wi hlt (by omega), Int.ofNat_lt, decide_true, cond_true, Int.natCast_nonneg, Int.toNat_natCast, getD_at hlt, hk, Option.bind_some]
      unfold msr msrK
      rcases Nat.eq_zero_or_pos (vsize d kids[i]) with h0 | h0
      · rw [if_pos h0, w64 (by omega) (by omega), if_pos (Or.inl h0)]
        have : (300 : Int) < (m : Int) + 301 := by omega
        simp [this]
      · rw [if_neg (show ¬ vsize d kids[i] = 0 by omega), w64 (by omega) (by omega)]
        rcases Nat.lt_or_ge 300 (m + vsize d kids[i]) with h1 | h1
        · rw [if_pos (Or.inr h1)]
          have : (300 : Int) < (m : Int) + (vsize d kids[i] : Int) := by omega
          simp [this]
        · rw [if_neg (show ¬ (vsize d kids[i] = 0 ∨ 300 < m + vsize d kids[i]) by omega)]
          have : ¬ (300 : Int) < (m : Int) + (vsize d kids[i] : Int) := by omega
          have ih' := ih (i + 1) (m + vsize d kids[i]) (by omega) (by omega) (by omega) h1
          push_cast at ih'
          simp only [this, decide_false, cond_false]
          push_cast
          rw [ih', msrK]
    · obtain rfl : i = kids.length := by omega
      rw [List.drop_length, sumK]
      have hlt : ¬ (kids.length : Int) < kids.length := by omega
      simp only [impl_measured.step, hlt, decide_false, cond_false]
      rw [msrK, if_neg (by omega)]

theorem measured_body {S : GVal × Int → Option (Int × Unit)} {S2 : GVal → Option (Bool × Unit)} {d : Nat} (hd : d ≤ 100) {v : GVal} (hv : Fine v) (h2 : S2 v = some (shapeI v, ()))
    (hS : ∀ e, e < d → ∀ k ∈ v.kids, S (k, (e : Int)) = some (msr e k, ())) : impl_measured.body S S2 (go (impl_measured.step S S2) (v.kids.length + 1)) v (d : Int) = some (msr d v, ()) := by
  obtain ⟨_, _, h3, _, _⟩ := hv.parts
  cases d with
  | zero => rfl
  | succ d =>
    have hne : (((d + 1 : Nat) : Int) == 0) = false := by
      rw [beq_eq_false_iff_ne]; omega
    have hl := measured_loop (S2 := S2) d (by omega) v.kids (hS d (by omega)) h3 (v.kids.length + 1) 0 1 (by omega) (by omega) (by omega) (by omega)
    simp only [impl_measured.body, re_eq, hne, cond_false, h2, Option.bind_some]
    simp only [Int.cast_ofNat_Int, List.drop_zero] at hl
    rw [hl]
    unfold msr vsize shapeI
    cases hsh : shapeV v with
    | false => simp [msrK]
    | true =>
      rcases Decidable.em (v.kind = 5) with h5 | h5
      · rcases Nat.lt_or_ge 300 v.keys.length with hk | hk
        · have hkk : v.keys.length = v.kids.length := by
            simp only [shapeV, h5] at hsh
            simp at hsh
            exact hsh.1.2
          have hz : sumK (vsize d) v.kids 1 = 0 := by
            rcases Nat.eq_zero_or_pos (sumK (vsize d) v.kids 1) with h0 | h0
            · exact h0
            · have := sumK_len (f := vsize d) (l := v.kids) (n := 1) (by omega) (by omega)
              omega
          have : ¬ v.keys.length ≤ 300 := by omega
          simp [h5, this, hz, msrK]
        · simp [hk]
      · have : (v.kind == 5) = false := beq_eq_false_iff_ne.2 h5
        simp [this]

theorem has_measured : Has Tryd.prog 21 sg_impl_measured (fun x => ∃ d : Nat, x.2 = (d : Int) ∧ d ≤ 100 ∧ Fine x.1) (fun x y => y = (msr x.2.toNat x.1, ())) := by
  obtain ⟨S2, hc2, hS2⟩ := has_shapeOk
  refine (Has.recN (sg := sg_impl_measured) (Pre := fun k x => ∃ d : Nat, x.2 = (d : Int) ∧ d < k ∧ d ≤ 100 ∧ Fine x.1) (fun x ⟨d, _, h, _⟩ => by omega) fun k S hc hS => ?_).mono (fun x ⟨d, h1, h2, h3⟩ => ⟨d + 1, d, h1, by omega, h2, h3⟩) fun _ _ _ h => h
  refine Has.of_go (impl_measured.con S S2 hc hc2) fun (v, r) ⟨d, hr, hk, hd, hv⟩ => ⟨v.kids.length + 1, (msr d v, ()), ?_, ?_⟩
  · obtain rfl : r = (d : Int) := hr
    exact measured_body hd hv (hS2.eq hv) fun e he q hq => hS.eq (x := (q, (e : Int))) ⟨e, rfl, by omega, by omega, hv.parts.2.2.2.2 q hq⟩
  · obtain rfl : r = (d : Int) := hr
    rfl
end Go.Proofs.YtgbfelpdlekbkaaDoor
end

/- The reference's look at values. -/
section
namespace Go.Proofs.YtgbfelpdlekbkaaDoor
open Go Go.Proofs Go.Lin

theorem look_loop {S : GVal × Int → Option (Int × Unit)} {S1 : ByteArray → Option (Bool × Unit)} {S2 : Int × Int × Int → Option (Bool × Unit)} {S3 : GVal → Option (Bool × Unit)} (d : Nat) (hd : d ≤ 100)
    (v : GVal) (hS : ∀ k ∈ v.kids, S (k, (d : Int)) = some ((vsize d k : Int), ())) (h1 : S1 v.text = some (textOk v.text, ())) (h2 : ∀ x, S2 x = some (between x, ()))
    (h3 : S3 v = some (keysOk v.keys && decide (v.keys.length = v.kids.length), ())) (hs : v.kids.length < 4294967296) :
    ∀ (n i m : Nat), i ≤ v.kids.length → v.kids.length - i < n → 1 ≤ m → m ≤ 300 → go (spec_l4Look.step S S1 S2 S3) n (.L0 ((d + 1 : Nat) : Int) (m : Int) (i : Int) v.kind v.text v.num v.keys v.kids) = some (((bif shapeV v then sumK (vsize d) (v.kids.drop i) m else 0 : Nat) : Int), ()) := by
  intro n
  induction n with
  | zero => intro i m _ h; omega
  | succ n ih =>
    intro i m hi hn hm1 hm2
    show spec_l4Look.step S S1 S2 S3 (go (spec_l4Look.step S S1 S2 S3) n) _ = _
    rcases Nat.lt_or_ge i v.kids.length with hlt | hge
    · rw [drop_cons hlt, sumK]
      have hk := hS _ (List.getElem_mem hlt)
      have hw : IntKind.wrap .i64 (((d + 1 : Nat) : Int) - 1) = (d : Int) := by
        rw [w64 (by omega) (by omega)]; omega
      have hle := vsize_le d v.kids[i]
      simp only [spec_l4Look.step, re_eq, hlt, hw, wi hlt (by omega), Int.ofNat_lt, decide_true, cond_true, Int.natCast_nonneg, Int.toNat_natCast, getD_at hlt, hk, Option.bind_some]
      rcases Nat.eq_zero_or_pos (vsize d v.kids[i]) with h0 | h0
      · rw [if_pos (Or.inl h0)]
        simp [h0]
      · have hne : ((vsize d v.kids[i] : Int) == 0) = false := by rw [beq_eq_false_iff_ne]; omega
        rw [w64 (by omega) (by omega)]
        simp only [hne, cond_false]
        rcases Nat.lt_or_ge 300 (m + vsize d v.kids[i]) with h1 | h1
        · rw [if_pos (Or.inr h1)]
          have : (300 : Int) < (m : Int) + (vsize d v.kids[i] : Int) := by omega
          simp [this]
        · rw [if_neg (show ¬ (vsize d v.kids[i] = 0 ∨ 300 < m + vsize d v.kids[i]) by omega)]
          have : ¬ (300 : Int) < (m : Int) + (vsize d v.kids[i] : Int) := by omega
          have ih' := ih (i + 1) (m + vsize d v.kids[i]) (by omega) (by omega) (by omega) h1
          push_cast at ih'
          simp only [this, decide_false, cond_false]
          push_cast
          rw [ih']
    · obtain rfl : i = v.kids.length := by omega
      rw [List.drop_length, sumK]
      have hlt : ¬ (v.kids.length : Int) < v.kids.length := by omega
      have hv : GVal.mk v.kind v.text v.num v.keys v.kids = v := re_eq v
      simp only [spec_l4Look.step, hlt, decide_false, cond_false, hv, h1, h2, h3, Option.bind_some, shapeV]
      generalize ((v.keys.length : Int) == 0) = a
      generalize ((v.kids.length : Int) == 0) = b
      rcases Decidable.em (v.kind = 1) with e | e1
      · simp only [e]
        cases a <;> cases b <;> cases v.num == 0 <;> cases textOk v.text <;> simp
      rcases Decidable.em (v.kind = 2) with e | e2
      · simp only [e]
        cases a <;> cases b <;> cases seq_ v.text (bs []) <;> simp
      rcases Decidable.em (v.kind = 3) with e | e3
      · simp only [e]
        cases a <;> cases b <;> cases seq_ v.text (bs []) <;> cases between (v.num, 0, 1) <;> simp
      rcases Decidable.em (v.kind = 4) with e | e4
      · simp only [e]
        cases a <;> cases b <;> cases seq_ v.text (bs []) <;> cases v.num == 0 <;> simp
      rcases Decidable.em (v.kind = 5) with e | e5
      · simp only [e]
        cases a <;> cases seq_ v.text (bs []) <;> cases v.num == 0 <;> cases keysOk v.keys <;> cases decide (v.keys.length = v.kids.length) <;> simp
      · have f1 : (v.kind == 1) = false := beq_eq_false_iff_ne.2 e1
        have f2 : (v.kind == 2) = false := beq_eq_false_iff_ne.2 e2
        have f3 : (v.kind == 3) = false := beq_eq_false_iff_ne.2 e3
        have f4 : (v.kind == 4) = false := beq_eq_false_iff_ne.2 e4
        have f5 : (v.kind == 5) = false := beq_eq_false_iff_ne.2 e5
        cases a <;> simp [f1, f2, f3, f4, f5]

theorem look_body {S : GVal × Int → Option (Int × Unit)} {S1 : ByteArray → Option (Bool × Unit)} {S2 : Int × Int × Int → Option (Bool × Unit)} {S3 : GVal → Option (Bool × Unit)} {d : Nat} (hd : d ≤ 100)
    {v : GVal} (hv : Fine v) (hS : ∀ e, e < d → ∀ k ∈ v.kids, S (k, (e : Int)) = some ((vsize e k : Int), ())) (h1 : S1 v.text = some (textOk v.text, ())) (h2 : ∀ x, S2 x = some (between x, ()))
    (h3 : S3 v = some (keysOk v.keys && decide (v.keys.length = v.kids.length), ())) : spec_l4Look.body S S1 S2 S3 (go (spec_l4Look.step S S1 S2 S3) (v.kids.length + 1)) v (d : Int) = some ((vsize d v : Int), ()) := by
  obtain ⟨_, _, h4, _, _⟩ := hv.parts
  cases d with
  | zero => rfl
  | succ d =>
    have hne : (((d + 1 : Nat) : Int) == 0) = false := by
      rw [beq_eq_false_iff_ne]; omega
    have hl := look_loop d (by omega) v (hS d (by omega)) h1 h2 h3 h4 (v.kids.length + 1) 0 1 (by omega) (by omega) (by omega) (by omega)
    simp only [spec_l4Look.body, hne, cond_false]
    simp only [Int.cast_ofNat_Int, List.drop_zero] at hl
    rw [hl, vsize, cond_eq_ite]

theorem has_look : Has Tryd.prog 20 sg_spec_l4Look (fun x => ∃ d : Nat, x.2 = (d : Int) ∧ d ≤ 100 ∧ Fine x.1) (fun x y => y = ((vsize x.2.toNat x.1 : Int), ())) := by
  obtain ⟨S1, hc1, hS1⟩ := has_l4Text
  obtain ⟨S2, hc2, hS2⟩ := has_l1In
  obtain ⟨S3, hc3, hS3⟩ := has_l4Keys
  refine (Has.recN (sg := sg_spec_l4Look) (Pre := fun k x => ∃ d : Nat, x.2 = (d : Int) ∧ d < k ∧ d ≤ 100 ∧ Fine x.1) (fun x ⟨d, _, h, _⟩ => by omega) fun k S hc hS => ?_).mono (fun x ⟨d, h1, h2, h3⟩ => ⟨d + 1, d, h1, by omega, h2, h3⟩) fun _ _ _ h => h
  refine Has.of_go (spec_l4Look.con S S1 S2 S3 hc hc1 hc2 hc3) fun (v, r) ⟨d, hr, hk, hd, hv⟩ => ⟨v.kids.length + 1, ((vsize d v : Int), ()), ?_, ?_⟩
  · obtain rfl : r = (d : Int) := hr
    exact look_body hd hv (fun e he q hq => hS.eq (x := (q, (e : Int))) ⟨e, rfl, by omega, by omega, hv.parts.2.2.2.2 q hq⟩) (hS1.eq hv.parts.1) (fun x => hS2.eq trivial) (hS3.eq hv.parts.2.1)
  · obtain rfl : r = (d : Int) := hr
    rfl
end Go.Proofs.YtgbfelpdlekbkaaDoor
namespace Go.Lin
def okV (v : GVal) : Bool := decide (0 < vsize 6 v)
end Go.Lin
namespace Go.Proofs.YtgbfelpdlekbkaaDoor
open Go Go.Proofs Go.Lin
theorem has_spec_ValueOk : Has Tryd.prog 8 sg_spec_ValueOk Fine (fun v y => y = (okV v, ())) := by
  obtain ⟨S, hc, hS⟩ := has_look
  refine Has.of (spec_ValueOk.con S hc) fun v hv => ⟨(okV v, ()), ?_, rfl⟩
  show spec_ValueOk.body S v = _
  have h := hS.eq (x := (v, 6)) ⟨6, rfl, by omega, hv⟩
  simp only [spec_ValueOk.body, re_eq, h]
  have : decide ((0 : Int) < (vsize 6 v : Int)) = decide (0 < vsize 6 v) := by rw [decide_eq_decide]; omega
  exact congrArg (fun b => some (b, ())) this
theorem has_impl_ValueOk : Has Tryd.prog 9 sg_impl_ValueOk Fine (fun v y => y = (okV v, ())) := by
  obtain ⟨S, hc, hS⟩ := has_measured
  refine Has.of (impl_ValueOk.con S hc) fun v hv => ⟨(okV v, ()), ?_, rfl⟩
  show impl_ValueOk.body S v = _
  have h := hS.eq (x := (v, 6)) ⟨6, rfl, by omega, hv⟩
  simp only [impl_ValueOk.body, re_eq, h]
  have : decide (msr 6 v ≤ 300) = decide (0 < vsize 6 v) := by
    have := vsize_le 6 v
    unfold msr msrK
    split <;> (rw [decide_eq_decide]; omega)
  exact congrArg (fun b => some (b, ())) this
theorem SizeOf_body {S : GVal → Option (Bool × Unit)} {S2 : GVal × Int → Option (Int × Unit)} {v : GVal} (h : S v = some (okV v, ())) (h2 : S2 (v, 6) = some (msr 6 v, ())) : impl_SizeOf.body S S2 v = some ((vsize 6 v : Int), ()) := by
  simp only [impl_SizeOf.body, re_eq, h, h2, Option.bind_some, okV, msr, msrK]
  rcases Nat.eq_zero_or_pos (vsize 6 v) with h0 | h0
  · simp [h0]
  · simp [h0, show ¬ vsize 6 v = 0 by omega]
theorem has_SizeOf : Has Tryd.prog 10 sg_impl_SizeOf Fine (fun v y => y = ((vsize 6 v : Int), ())) := by
  obtain ⟨S, hc, hS⟩ := has_impl_ValueOk
  obtain ⟨S2, hc2, hS2⟩ := has_measured
  exact Has.of (impl_SizeOf.con S S2 hc hc2) fun v hv => ⟨((vsize 6 v : Int), ()), SizeOf_body (hS.eq hv) (hS2.eq (x := (v, 6)) ⟨6, rfl, by omega, hv⟩), rfl⟩
end Go.Proofs.YtgbfelpdlekbkaaDoor
end

/- Equal values. -/
section
namespace Go.Proofs.YtgbfelpdlekbkaaDoor
open Go Go.Proofs Go.Lin

theorem drop_eq {α : Type} {l l' : List α} {i : Nat} (h : i < l.length) (h' : i < l'.length) : l.drop i = l'.drop i ↔ l[i] = l'[i] ∧ l.drop (i + 1) = l'.drop (i + 1) := by
  rw [drop_cons h, drop_cons h']
  exact List.cons_eq_cons

theorem Equal_loop (l l' : List ByteArray) (he : l.length = l'.length) (hs : l.length < 4294967296) :
    ∀ (n i : Nat), i ≤ l.length → l.length - i < n → ∃ b, go slices_Equal_string.step n (.L0 l l' (l.length : Int) (i : Int)) = some (b, ()) ∧ (b = true ↔ l.drop i = l'.drop i) := by
  intro n
  induction n with
  | zero => intro i _ h; omega
  | succ n ih =>
    intro i hi hn
    show ∃ b, slices_Equal_string.step (go slices_Equal_string.step n) _ = _ ∧ _
    rcases Nat.lt_or_ge i l.length with hlt | hge
    · have hlt' : i < l'.length := by omega
      rw [drop_eq hlt hlt']
      obtain ⟨b, hb, hb2⟩ := ih (i + 1) (by omega) (by omega)
      push_cast at hb
      simp only [slices_Equal_string.step, hlt, hlt', wi hlt (by omega), hb, Int.ofNat_lt, decide_true, cond_true, Int.natCast_nonneg, Int.toNat_natCast, getD_at hlt, getD_at hlt', seq_eq]
      rcases Decidable.em (l[i] = l'[i]) with e | e
      · simp only [e, decide_true, Bool.not_true, cond_false]
        exact ⟨b, rfl, by simp [hb2]⟩
      · simp only [e, decide_false, Bool.not_false, cond_true]
        exact ⟨false, rfl, by simp⟩
    · obtain rfl : i = l.length := by omega
      have hlt : ¬ (l.length : Int) < l.length := by omega
      simp only [slices_Equal_string.step, hlt, decide_false, cond_false]
      exact ⟨true, rfl, by simp [he]⟩
theorem has_Equal : Has Tryd.prog 23 sg_slices_Equal_string (fun x => x.1.length < 4294967296) (fun x y => (y.1 = true ↔ x.1 = x.2)) := by
  refine Has.of_go slices_Equal_string.con fun (l, l') hs => ?_
  show ∃ n y, slices_Equal_string.body (go slices_Equal_string.step n) l l' = some y ∧ (y.1 = true ↔ l = l')
  rcases Decidable.em (l.length = l'.length) with e | e
  · obtain ⟨b, hb, hb2⟩ := Equal_loop l l' e hs (l.length + 1) 0 (by omega) (by omega)
    refine ⟨l.length + 1, (b, ()), ?_, hb2⟩
    simp only [slices_Equal_string.body]
    rw [show (((l.length : Int)) != ((l'.length : Int))) = false from by rw [e]; simp]
    exact hb
  · refine ⟨0, (false, ()), ?_, ?_⟩
    · simp only [slices_Equal_string.body]
      rw [show (((l.length : Int)) != ((l'.length : Int))) = true from by simp; omega]
      rfl
    · simp only [Bool.false_eq_true, false_iff]
      exact fun h => e (by rw [h])

theorem EqualFunc_loop {S : GVal × GVal → Option (Bool × Unit)} (l l' : List GVal) (hS : ∀ x ∈ l, ∀ y, ∃ b, S (x, y) = some (b, ()) ∧ (b = true ↔ x = y)) (he : l.length = l'.length) (hs : l.length < 4294967296) :
    ∀ (n i : Nat), i ≤ l.length → l.length - i < n → ∃ b, go (slices_EqualFunc_Value.step S) n (.L0 l' l (l.length : Int) (i : Int)) = some (b, ()) ∧ (b = true ↔ l.drop i = l'.drop i) := by
  intro n
  induction n with
  | zero => intro i _ h; omega
  | succ n ih =>
    intro i hi hn
    show ∃ b, slices_EqualFunc_Value.step S (go (slices_EqualFunc_Value.step S) n) _ = _ ∧ _
    rcases Nat.lt_or_ge i l.length with hlt | hge
    · have hlt' : i < l'.length := by omega
      rw [drop_eq hlt hlt']
      obtain ⟨b, hb, hb2⟩ := ih (i + 1) (by omega) (by omega)
      obtain ⟨c, hc, hc2⟩ := hS _ (List.getElem_mem hlt) l'[i]
      push_cast at hb
      simp only [slices_EqualFunc_Value.step, re_eq, hlt, hlt', wi hlt (by omega), hb, Int.ofNat_lt, decide_true, cond_true, Int.natCast_nonneg, Int.toNat_natCast, getD_at hlt, getD_at hlt', hc, Option.bind_some]
      cases c with
      | true =>
        have e := hc2.1 rfl
        exact ⟨b, rfl, by simp [hb2, e]⟩
      | false =>
        have e : ¬ l[i] = l'[i] := fun h => by simpa using hc2.2 h
        exact ⟨false, rfl, by simp [e]⟩
    · obtain rfl : i = l.length := by omega
      have hlt : ¬ (l.length : Int) < l.length := by omega
      simp only [slices_EqualFunc_Value.step, hlt, decide_false, cond_false]
      exact ⟨true, rfl, by simp [he]⟩
theorem EqualFunc_body {S : GVal × GVal → Option (Bool × Unit)} (l l' : List GVal) (hS : ∀ x ∈ l, ∀ y, ∃ b, S (x, y) = some (b, ()) ∧ (b = true ↔ x = y)) (hs : l.length < 4294967296) :
    ∃ n y, slices_EqualFunc_Value.body S (go (slices_EqualFunc_Value.step S) n) l l' = some y ∧ (y.1 = true ↔ l = l') := by
  rcases Decidable.em (l.length = l'.length) with e | e
  · obtain ⟨b, hb, hb2⟩ := EqualFunc_loop l l' hS e hs (l.length + 1) 0 (by omega) (by omega)
    refine ⟨l.length + 1, (b, ()), ?_, hb2⟩
    simp only [slices_EqualFunc_Value.body]
    rw [show (((l.length : Int)) != ((l'.length : Int))) = false from by rw [e]; simp]
    exact hb
  · refine ⟨0, (false, ()), ?_, ?_⟩
    · simp only [slices_EqualFunc_Value.body]
      rw [show (((l.length : Int)) != ((l'.length : Int))) = true from by simp; omega]
      rfl
    · simp only [Bool.false_eq_true, false_iff]
      exact fun h => e (by rw [h])
theorem gval_ext {v w : GVal} : v = w ↔ v.kind = w.kind ∧ v.text = w.text ∧ v.num = w.num ∧ v.keys = w.keys ∧ v.kids = w.kids := by
  cases v; cases w
  simp
theorem SameValue_body {S : GVal × GVal → Option (Bool × Unit)} {S1 : List ByteArray × List ByteArray → Option (Bool × Unit)} {S2 : List GVal × List GVal × Unit → Option (Bool × Unit)} (v w : GVal)
    (h1 : ∃ y, S1 (v.keys, w.keys) = some y ∧ (y.1 = true ↔ v.keys = w.keys)) (h2 : ∃ y, S2 (v.kids, w.kids, ()) = some y ∧ (y.1 = true ↔ v.kids = w.kids)) :
    ∃ y, impl_SameValue.body S S1 S2 v w = some y ∧ (y.1 = true ↔ v = w) := by
  obtain ⟨y1, h1, h1'⟩ := h1
  obtain ⟨y2, h2, h2'⟩ := h2
  rw [gval_ext]
  simp only [impl_SameValue.body, h1, h2, Option.bind_some, seq_eq]
  rcases Decidable.em (v.kind = w.kind) with e1 | e1
  case inr => exact ⟨(false, ()), by simp [beq_eq_false_iff_ne.2 e1], by simp [e1]⟩
  rcases Decidable.em (v.text = w.text) with e2 | e2
  case inr => exact ⟨(false, ()), by simp [e1, e2], by simp [e2]⟩
  rcases Decidable.em (v.num = w.num) with e3 | e3
  case inr => exact ⟨(false, ()), by simp [e1, e2, beq_eq_false_iff_ne.2 e3], by simp [e3]⟩
  obtain ⟨b1, u1⟩ := y1
  obtain ⟨b2, u2⟩ := y2
  cases b1 with
  | false =>
    have : ¬ v.keys = w.keys := fun h => by simpa using h1'.2 h
    exact ⟨(false, ()), by simp [e1, e2, e3], by simp [this]⟩
  | true => exact ⟨(b2, ()), by simp [e1, e2, e3], by simp only [e1, e2, e3, h1'.1 rfl, true_and]; exact h2'⟩

theorem has_Same : Has Tryd.prog 12 sg_impl_SameValue (fun x => Fine x.1) (fun x y => (y.1 = true ↔ x.1 = x.2)) := by
  obtain ⟨S1, hc1, hS1⟩ := has_Equal
  have := Has.recN2 (P := Tryd.prog) (g := 12) (g' := 24) (sg := sg_impl_SameValue) (sg' := sg_slices_EqualFunc_Value) (Pre := fun k x => ∃ h, Bnd h x.1 ∧ 2 * h ≤ k) (Pre' := fun k x => x.1.length < 4294967296 ∧ ∃ h, (∀ q ∈ x.1, Bnd h q) ∧ 2 * h + 1 ≤ k)
    (Q := fun x y => (y.1 = true ↔ x.1 = x.2)) (Q' := fun x y => (y.1 = true ↔ x.1 = x.2.1)) (fun x ⟨h, hb, hk⟩ => by
      obtain rfl : h = 0 := by omega
      exact hb) (fun x ⟨_, h, hb, hk⟩ => by omega) ?_ ?_
  · exact this.1.mono (fun x ⟨h, hb⟩ => ⟨2 * h, h, hb, Nat.le_refl _⟩) fun _ _ _ h => h
  · intro k S' hc' hS'
    refine Has.of (sg := sg_impl_SameValue) (S := fun (v, w) => impl_SameValue.body (fun _ => none) S1 S' v w) (impl_SameValue.con (fun _ => none) S1 S' (fun _ _ h => nomatch h) hc1 hc') fun (v, w) ⟨h, hb, hk⟩ => ?_
    have hp := (show Fine v from ⟨h, hb⟩).parts
    cases h with
    | zero => exact hb.elim
    | succ h => exact SameValue_body v w (hS1 (v.keys, w.keys) hp.2.1.1) (hS' (v.kids, w.kids, ()) ⟨hp.2.2.1, h, hb.2.2.2.2, by omega⟩)
  · intro k S hc hS
    refine Has.of_go (sg := sg_slices_EqualFunc_Value) (S := fun n (l, l', ()) => slices_EqualFunc_Value.body S (go (slices_EqualFunc_Value.step S) n) l l') (slices_EqualFunc_Value.con S hc) fun (l, l', ()) ⟨hl, h, hb, hk⟩ => ?_
    exact EqualFunc_body l l' (fun x hx y => let ⟨z, h1, h2⟩ := hS (x, y) ⟨h, hb x hx, by omega⟩; ⟨z.1, h1, h2⟩) hl
end Go.Proofs.YtgbfelpdlekbkaaDoor
end

/- Functions of Go's library, by their contracts. -/
section
open Go.RowKit
namespace Go.Lin

/-- A function that leaves what was there as it was. -/
theorem Meets.of_calls [Base] {P : Program} {g : FuncId} {args : List V} {res : V}
    (h : ∀ F w m cargs, Base.G F w → (∀ g, F g → g < w.heap.size) → All2 (RV F w m []) args cargs.toList → ∃ cv, (∀ F w m, RV F w m [] res cv) ∧ Calls P g cargs w fun e w' => e = .returned cv ∧ Below w.heap.size w w') : Meets P g args [] res [] := by
  intro F w m cargs hargs hb
  obtain ⟨cv, hres, hc⟩ := h F w m cargs hb.glob hb.fz hargs
  refine hc.mono ?_
  rintro e w' ⟨rfl, hbe⟩
  refine ⟨F, m, cv, rfl, hres F w' m, ⟨fun b x hx => by simp at hx, fun b b' x x' g hx => by simp at hx, fun g hg => Nat.lt_of_lt_of_le (hb.fz g hg) hbe.size, Base.later (fun _ h => h) (fun g hg => hbe.block g (hb.fz g hg)) hb.glob⟩,
    ⟨fun _ h => h, fun g hg => hbe.block g (hb.fz g hg), Nat.le_refl _, fun b hlt => absurd hlt (by simp), fun b hlt => absurd hlt (by simp)⟩, fun g hg => .inl hg, ?_, ⟨hbe.os, hbe.tape, hbe.output, hbe.size, fun g hg _ => hbe.block g hg⟩⟩
  rintro g ⟨b, x, hx, _⟩
  simp at hx

def sigS2 : Sig := ⟨[.one .str, .one .str], [.one .str]⟩

theorem All2.two {α β : Type} {R : α → β → Prop} {x x' : α} {ys : List β} (h : All2 R [x, x'] ys) : ∃ y y', ys = [y, y'] ∧ R x y ∧ R x' y' := by
  cases h with
  | cons h t =>
    obtain ⟨y', rfl, h'⟩ := t.one
    exact ⟨_, _, rfl, h, h'⟩
theorem All2.three {α β : Type} {R : α → β → Prop} {x x' x'' : α} {ys : List β} (h : All2 R [x, x', x''] ys) : ∃ y y' y'', ys = [y, y', y''] ∧ R x y ∧ R x' y' ∧ R x'' y'' := by
  cases h with
  | cons h t =>
    obtain ⟨y', y'', rfl, h', h''⟩ := t.two
    exact ⟨_, _, _, rfl, h, h', h''⟩
theorem arr2 {α : Type} {a : Array α} {x y : α} (h : a.toList = [x, y]) : a = #[x, y] := by apply Array.ext'; simpa using h
theorem arr3 {α : Type} {a : Array α} {x y z : α} (h : a.toList = [x, y, z]) : a = #[x, y, z] := by apply Array.ext'; simpa using h

/-! ### replacing one byte -/
theorem flat_id {f : UInt8 → List UInt8} {s : List UInt8} (h : ∀ b ∈ s, f b = [b]) : s.flatMap f = s := by
  induction s with
  | nil => rfl
  | cons b s ih =>
    rw [List.flatMap_cons, h b (by simp), ih fun c hc => h c (by simp [hc])]
    rfl
theorem flatB_len {f : UInt8 → List UInt8} {k : Nat} (h : ∀ b, (f b).length ≤ k) (s : List UInt8) : (s.flatMap f).length ≤ k * s.length := by
  induction s with
  | nil => exact Nat.zero_le _
  | cons b s ih =>
    rw [List.flatMap_cons, List.length_append, List.length_cons, Nat.mul_succ]
    have := h b
    omega
def rep1 (c : UInt8) (new : List UInt8) (b : UInt8) : List UInt8 := if b = c then new else [b]
theorem replaceK_one (c : UInt8) (new : List UInt8) : ∀ (n : Nat) (s : List UInt8), s.length ≤ n → Lib.replaceK [c] new (s.count c) s = s.flatMap (rep1 c new) := by
  intro n
  induction n with
  | zero =>
    intro s hs
    obtain rfl : s = [] := List.length_eq_zero_iff.1 (by omega)
    rfl
  | succ n ih =>
    intro s hs
    have hge := Lib.indexByte_ge s c
    rcases Int.lt_or_le (Lib.indexByte s c) 0 with hi | hi
    · have h1 : Lib.indexByte s c = -1 := by omega
      have hno := Lib.indexByte_none h1
      have hnm : c ∉ s := fun hm => by
        obtain ⟨k, hk⟩ := List.mem_iff_getElem?.1 hm
        exact hno k hk
      rw [List.count_eq_zero_of_not_mem hnm, flat_id]
      · rfl
      · intro b hb
        have : b ≠ c := fun e => hnm (e ▸ hb)
        simp [rep1, this]
    · obtain ⟨o, ho⟩ : ∃ o : Nat, Lib.indexByte s c = o := ⟨(Lib.indexByte s c).toNat, by omega⟩
      obtain ⟨h1, h2⟩ := Lib.indexByte_some ho
      obtain ⟨hlt, he⟩ := List.getElem?_eq_some_iff.1 h1
      have hsplit : s = s.take o ++ c :: s.drop (o + 1) := by
        rw [← he, ← List.drop_eq_getElem_cons hlt, List.take_append_drop]
      have hno : c ∉ s.take o := fun hm => by
        obtain ⟨k, hk⟩ := List.mem_iff_getElem?.1 hm
        rw [List.getElem?_take] at hk
        split at hk
        · rename_i hk2
          exact h2 k hk2 hk
        · cases hk
      have hcount : s.count c = (s.drop (o + 1)).count c + 1 := by
        conv => lhs; rw [hsplit]
        rw [List.count_append, List.count_eq_zero_of_not_mem hno, List.count_cons]
        simp
      have hd : (s.drop (o + 1)).length ≤ n := by
        rw [List.length_drop]; omega
      rw [hcount, Lib.replaceK_hit _ _ _ _ o (by rw [Lib.index_one]; exact ho)]
      simp only [List.length_cons, List.length_nil, Nat.zero_add]
      rw [ih _ hd]
      conv => rhs; rw [hsplit]
      rw [List.flatMap_append, List.flatMap_cons, flat_id (s := s.take o)]
      · simp [rep1]
      · intro b hb
        have : b ≠ c := fun e => hno (e ▸ hb)
        simp [rep1, this]
theorem replaceAll_one {c : UInt8} {new s : List UInt8} (h : new ≠ [c]) : Lib.replaceAll s [c] new = s.flatMap (rep1 c new) := by
  have hne : ([c] == new) = false := by
    rw [beq_eq_false_iff_ne]
    exact fun e => h e.symm
  unfold Lib.replaceAll Lib.replace
  rw [hne]
  have : Lib.replaceNum s [c] (-1) = s.count c := by
    unfold Lib.replaceNum
    rw [if_pos (.inl (by omega)), Lib.count_one]
  rw [this]
  exact replaceK_one c new _ s (Nat.le_refl _)
end Go.Lin
end
