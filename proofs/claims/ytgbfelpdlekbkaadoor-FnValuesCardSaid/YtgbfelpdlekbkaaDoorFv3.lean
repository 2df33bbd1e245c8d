/- The texts of values. -/
import Derived.Test.YtgbfelpdlekbkaaDoorFv2
import Derived.Test.YtgbfelpdlekbkaaDoorShelf
set_option linter.unusedVariables false
set_option linter.unusedSimpArgs false
section
namespace Go.Lin
/-! ### texts in quotes -/
def esc (s : List UInt8) : List UInt8 := s.flatMap fun b => if b = 34 ∨ b = 92 then [92, b] else [b]
def quotedL (s : List UInt8) : List UInt8 := 34 :: (esc s ++ [34])
theorem esc_two (s : List UInt8) : (s.flatMap (rep1 92 [92, 92])).flatMap (rep1 34 [92, 34]) = esc s := by
  unfold esc
  induction s with
  | nil => rfl
  | cons b s ih =>
    rw [List.flatMap_cons, List.flatMap_append, ih, List.flatMap_cons]
    congr 1
    unfold rep1
    by_cases h : b = 92
    · subst h; decide
    · by_cases h' : b = 34
      · subst h'; decide
      · simp [h, h']
theorem esc_len (s : List UInt8) : (esc s).length ≤ 2 * s.length := flatB_len (fun b => by split <;> simp) s

/-! ### numbers -/
def decN (n : Nat) : List UInt8 := if h : n < 10 then [UInt8.ofNat (48 + n)] else decN (n / 10) ++ [UInt8.ofNat (48 + n % 10)]
termination_by n
decreasing_by omega
def decL (n : Int) : List UInt8 := if n < 0 then 45 :: decN n.natAbs else decN n.natAbs
theorem decN_len {n k : Nat} (h : n < 10 ^ k) (hk : 0 < k) : (decN n).length ≤ k := by
  induction k generalizing n with
  | zero => omega
  | succ k ih =>
    unfold decN
    split
    · simp
    · rw [List.length_append]
      have : n / 10 < 10 ^ k := by
        rw [Nat.pow_succ] at h
        omega
      have hk' : 0 < k := by
        rcases Nat.eq_zero_or_pos k with rfl | h'
        · simp at this; omega
        · exact h'
      have := ih this hk'
      simp
      omega
end Go.Lin
namespace Go.Proofs.YtgbfelpdlekbkaaDoor
open Go Go.Proofs Go.Lin Go.RowKit

theorem has_ReplaceAll : Has Tryd.prog 62 sg_strings_ReplaceAll (fun x => x.1.size < 2147483648 ∧ x.2.2.size ≤ 1000 ∧ ∃ c, x.2.1 = ⟨#[c]⟩ ∧ by_ x.2.2 ≠ [c])
    (fun x y => ∀ c, x.2.1 = ⟨#[c]⟩ → by_ y.1 = (by_ x.1).flatMap (rep1 c (by_ x.2.2))) := by
  refine Has.of_meets fun (s, old, new) ⟨h1, h2, c, hc, hne⟩ => ?_
  obtain rfl : old = ⟨#[c]⟩ := hc
  have h1 : s.size < 2147483648 := h1
  have h2 : new.size ≤ 1000 := h2
  have hcnt := Lib.countB_le (⟨#[c]⟩ : ByteArray) (Nat.le_refl 1) s.size s (Nat.le_refl _)
  have hlen : s.size + Lib.countB s ⟨#[c]⟩ * new.size ≤ 140737488355328 := by
    have : Lib.countB s ⟨#[c]⟩ * new.size ≤ 2147483648 * 1000 := Nat.mul_le_mul (by omega) h2
    omega
  refine ⟨(⟨(Lib.replaceAll (by_ s) [c] (by_ new)).toArray⟩, ()), ?_, ?_⟩
  · intro c' hc'
    obtain rfl : c = c' := by
      injection hc' with h
      injection h with h
      injection h with h _
    show by_ (⟨(Lib.replaceAll (by_ s) [c] (by_ new)).toArray⟩ : ByteArray) = _
    rw [replaceAll_one hne]
  · refine Meets.of_calls fun F w m cargs hG hfz hargs => ?_
    obtain ⟨a, b, d, hl, ha, hb, hd⟩ := hargs.three
    obtain rfl : a = .string s := ha
    obtain rfl : b = .string ⟨#[c]⟩ := hb
    obtain rfl : d = .string new := hd
    rw [arr3 hl]
    obtain ⟨h0, k, hk⟩ := hG
    exact ⟨.string ⟨(Lib.replaceAll (by_ s) [c] (by_ new)).toArray⟩, fun _ _ _ => rfl, Tryd.strings_ReplaceAll s ⟨#[c]⟩ new k w (by omega) hk (Nat.le_refl 1) hlen⟩

theorem quoted_body {S : ByteArray × ByteArray × ByteArray → Option (ByteArray × Unit)} (s : ByteArray) (hs : s.size < 1000000)
    (hS : ∀ (t new : ByteArray) (c : UInt8), t.size < 2147483648 → new.size ≤ 1000 → by_ new ≠ [c] → ∃ y, S (t, ⟨#[c]⟩, new) = some y ∧ by_ y.1 = (by_ t).flatMap (rep1 c (by_ new))) :
    ∃ y, impl_quoted.body S s = some y ∧ by_ y.1 = quotedL (by_ s) := by
  obtain ⟨y1, h1, e1⟩ := hS s (bs [92, 92]) 92 (by omega) (by decide) (by decide)
  have l1 : y1.1.size ≤ 2 * s.size := by
    rw [← by_len, e1, ← by_len s]
    refine flatB_len (fun b => ?_) _
    unfold rep1
    split
    · exact Nat.le_refl 2
    · exact Nat.le_succ 1
  obtain ⟨y2, h2, e2⟩ := hS y1.1 (bs [92, 34]) 34 (by omega) (by decide) (by decide)
  have e3 : by_ y2.1 = esc (by_ s) := by rw [e2, e1]; exact esc_two _
  have l2 : y2.1.size ≤ 2 * s.size := by
    rw [← by_len, e3, ← by_len s]
    exact esc_len _
  have b1 : 1 + y2.1.size ≤ 9223372036854775807 := by omega
  have sz : ((bs [34]) ++ y2.1).size = 1 + y2.1.size := by
    rw [← by_len, by_app, List.length_append, by_len]
    congr 1
  have b2 : ((bs [34]) ++ y2.1).size + 1 ≤ 9223372036854775807 := by omega
  refine ⟨(((bs [34]) ++ y2.1) ++ (bs [34]), ()), ?_, ?_⟩
  · have h1' : S (s, bs [92], bs [92, 92]) = some y1 := h1
    have h2' : S (y1.1, bs [34], bs [92, 34]) = some y2 := h2
    simp only [impl_quoted.body, h1', h2', Option.bind_some, b1, b2, decide_true, cond_true]
  · show by_ (((bs [34]) ++ y2.1) ++ (bs [34])) = _
    rw [by_app, by_app, e3]
    rfl
theorem has_quoted : Has Tryd.prog 37 sg_impl_quoted (fun s => s.size < 1000000) (fun s y => by_ y.1 = quotedL (by_ s)) := by
  obtain ⟨S, hc, hS⟩ := has_ReplaceAll
  exact Has.of (impl_quoted.con S hc) fun s hs => quoted_body s hs fun t new c h1 h2 h3 => let ⟨y, a, b⟩ := hS (t, ⟨#[c]⟩, new) ⟨h1, h2, c, rfl, h3⟩; ⟨y, a, b c rfl⟩
end Go.Proofs.YtgbfelpdlekbkaaDoor
end

/- Numbers as texts. -/
section
namespace Go.Lin
theorem enc_digit (d : Nat) (h : d < 10) : by_ (Utf8.encode ((48 + d : Nat) : Int)) = [UInt8.ofNat (48 + d)] := by
  obtain rfl | rfl | rfl | rfl | rfl | rfl | rfl | rfl | rfl | rfl : d = 0 ∨ d = 1 ∨ d = 2 ∨ d = 3 ∨ d = 4 ∨ d = 5 ∨ d = 6 ∨ d = 7 ∨ d = 8 ∨ d = 9 := by omega
  all_goals rfl
theorem decN_small {n : Nat} (h : n < 10) : decN n = [UInt8.ofNat (48 + n)] := by
  unfold decN
  rw [dif_pos h]
theorem decN_big {n : Nat} (h : ¬ n < 10) : decN n = decN (n / 10) ++ [UInt8.ofNat (48 + n % 10)] := by
  conv => lhs; unfold decN
  rw [dif_neg h]
abbrev in64 (n : Int) : Prop := -9223372036854775808 ≤ n ∧ n < 9223372036854775808
def decM (n : Int) : Nat := 2 * n.natAbs + if n < 0 then 1 else 0
theorem decL_len {n : Int} (h : in64 n) : (decL n).length ≤ 20 := by
  obtain ⟨h1, h2⟩ := h
  have : n.natAbs < 10 ^ 19 := by omega
  have := decN_len this (by omega)
  unfold decL
  split
  · simpa using this
  · omega
theorem wrap32 (d : Nat) (h : d < 10) : IntKind.wrap .i32 (IntKind.wrap .i64 (48 + (d : Int))) = ((48 + d : Nat) : Int) := by
  have : ∀ d : Fin 10, IntKind.wrap .i32 (IntKind.wrap .i64 (48 + (d.val : Int))) = ((48 + d.val : Nat) : Int) := by decide
  exact this ⟨d, h⟩
end Go.Lin
namespace Go.Proofs.YtgbfelpdlekbkaaDoor
open Go Go.Proofs Go.Lin Go.RowKit

theorem decimal_body {S : Int → Option (ByteArray × Unit)} {n : Int} (hn : in64 n) (hS : ∀ m, in64 m → decM m < decM n → ∃ y, S m = some y ∧ by_ y.1 = decL m) :
    ∃ y, impl_decimal.body S n = some y ∧ by_ y.1 = decL n := by
  have key : ∀ {m : Int} {y : ByteArray × Unit}, in64 m → by_ y.1 = decL m → y.1.size ≤ 20 := fun hm e => by
    rw [← by_len, e]
    exact decL_len hm
  have dsz : ∀ d, d < 10 → (Utf8.encode ((48 + d : Nat) : Int)).size = 1 := fun d h => by
    rw [← by_len, enc_digit d h]
    rfl
  rcases Int.lt_or_le n 0 with hneg | hpos
  · obtain ⟨m, rfl⟩ : ∃ m : Nat, n = -(m : Int) := ⟨n.natAbs, by omega⟩
    have hm : 0 < m := by omega
    rcases Nat.lt_or_ge m 10 with hlt | hge
    · have w : IntKind.wrap .i64 (0 - -(m : Int)) = (m : Int) := by rw [w64 (by omega) (by omega)]; omega
      obtain ⟨y, hy, e⟩ := hS (m : Int) ⟨by omega, by omega⟩ (by unfold decM; (repeat' split) <;> omega)
      have := key ⟨by omega, by omega⟩ e
      refine ⟨((bs [45]) ++ y.1, ()), ?_, ?_⟩
      · simp only [impl_decimal.body, hneg, show (-10 : Int) < -(m : Int) by omega, decide_true, cond_true, w, hy, Option.bind_some, show 1 + y.1.size ≤ 9223372036854775807 by omega]
      · show by_ ((bs [45]) ++ y.1) = _
        rw [by_app, e]
        unfold decL
        rw [if_neg (by omega), if_pos hneg, show (-(m : Int)).natAbs = m by omega, Int.natAbs_natCast]
        exact List.singleton_append
    · have e1 : Int.tdiv (-(m : Int)) 10 = -((m / 10 : Nat) : Int) := by
        rw [Int.neg_tdiv, Int.tdiv_eq_ediv_of_nonneg (by omega)]; omega
      have e2 : Int.tmod (-(m : Int)) 10 = -((m % 10 : Nat) : Int) := by
        rw [Int.neg_tmod, Int.tmod_eq_emod_of_nonneg (by omega)]; omega
      have w1 : IntKind.wrap .i64 (-((m / 10 : Nat) : Int)) = -((m / 10 : Nat) : Int) := w64 (by omega) (by omega)
      have w2 : IntKind.wrap .i64 (0 - -((m % 10 : Nat) : Int)) = ((m % 10 : Nat) : Int) := by rw [w64 (by omega) (by omega)]; omega
      obtain ⟨y1, hy1, f1⟩ := hS (-((m / 10 : Nat) : Int)) ⟨by omega, by omega⟩ (by unfold decM; (repeat' split) <;> omega)
      obtain ⟨y2, hy2, f2⟩ := hS ((m % 10 : Nat) : Int) ⟨by omega, by omega⟩ (by unfold decM; (repeat' split) <;> omega)
      have k1 := key ⟨by omega, by omega⟩ f1
      have k2 := key ⟨by omega, by omega⟩ f2
      refine ⟨(y1.1 ++ y2.1, ()), ?_, ?_⟩
      · simp only [impl_decimal.body, hneg, show ¬ (-10 : Int) < -(m : Int) by omega, decide_true, decide_false, cond_true, cond_false, e1, e2, w1, w2, hy1, hy2, Option.bind_some, show y1.1.size + y2.1.size ≤ 9223372036854775807 by omega]
      · show by_ (y1.1 ++ y2.1) = _
        rw [by_app, f1, f2]
        unfold decL
        rw [if_pos (by omega), if_neg (by omega), if_pos hneg]
        have a1 : (-((m / 10 : Nat) : Int)).natAbs = m / 10 := by omega
        have a2 : (((m % 10 : Nat) : Int)).natAbs = m % 10 := by omega
        have a3 : (-(m : Int)).natAbs = m := by omega
        rw [a1, a2, a3, decN_big (show ¬ m < 10 by omega), decN_small (show m % 10 < 10 by omega), List.cons_append]
  · obtain ⟨m, rfl⟩ : ∃ m : Nat, n = (m : Int) := ⟨n.natAbs, by omega⟩
    have hneg : ¬ (m : Int) < 0 := by omega
    rcases Nat.lt_or_ge m 10 with hlt | hge
    · have e : by_ (Utf8.encode ((48 + m : Nat) : Int)) = decL (m : Int) := by
        rw [enc_digit m hlt]
        unfold decL
        rw [if_neg hneg, Int.natAbs_natCast, decN_small hlt]
      generalize hy : Utf8.encode ((48 + m : Nat) : Int) = y at e
      refine ⟨(y, ()), ?_, e⟩
      simp only [impl_decimal.body, hneg, show (m : Int) < 10 by omega, decide_true, decide_false, cond_true, cond_false, wrap32 m hlt, hy]
    · have e1 : Int.tdiv (m : Int) 10 = ((m / 10 : Nat) : Int) := by
        rw [Int.tdiv_eq_ediv_of_nonneg (by omega)]; omega
      have e2 : Int.tmod (m : Int) 10 = ((m % 10 : Nat) : Int) := by
        rw [Int.tmod_eq_emod_of_nonneg (by omega)]; omega
      have w1 : IntKind.wrap .i64 ((m / 10 : Nat) : Int) = ((m / 10 : Nat) : Int) := w64 (by omega) (by omega)
      obtain ⟨y1, hy1, f1⟩ := hS (((m / 10 : Nat) : Int)) ⟨by omega, by omega⟩ (by unfold decM; (repeat' split) <;> omega)
      have k1 := key ⟨by omega, by omega⟩ f1
      have k2 := dsz (m % 10) (by omega)
      have f2 := enc_digit (m % 10) (by omega)
      generalize hy2 : Utf8.encode ((48 + m % 10 : Nat) : Int) = y2 at k2 f2
      refine ⟨(y1.1 ++ y2, ()), ?_, ?_⟩
      · have hy3 : Utf8.encode (IntKind.wrap .i32 (IntKind.wrap .i64 (48 + Int.tmod (m : Int) 10))) = y2 := by rw [e2, wrap32 (m % 10) (by omega)]; exact hy2
        unfold impl_decimal.body
        rw [hy3]
        have hsz : y1.1.size + y2.size ≤ 9223372036854775807 := by omega
        have h10 : ¬ (m : Int) < 10 := by omega
        rw [decide_eq_false hneg, cond_false, decide_eq_false h10, cond_false, e1, w1, hy1, Option.bind_some, decide_eq_true hsz, cond_true, cond_false]
      · show by_ (y1.1 ++ y2) = _
        rw [by_app, f1, f2]
        unfold decL
        rw [if_neg (by omega), if_neg hneg, Int.natAbs_natCast, Int.natAbs_natCast, decN_big (show ¬ m < 10 by omega)]
theorem has_decimal : Has Tryd.prog 38 sg_impl_decimal in64 (fun n y => by_ y.1 = decL n) :=
  Has.rec_ (sg := sg_impl_decimal) decM fun k S hc hS => Has.of (impl_decimal.con S hc) fun n ⟨hn, hk⟩ => decimal_body hn fun m hm hlt => hS m ⟨hm, by omega⟩
end Go.Proofs.YtgbfelpdlekbkaaDoor
end

/- strings.Join. -/
section
namespace Go.Proofs.YtgbfelpdlekbkaaDoor
open Go Go.Proofs Go.Lin Go.RowKit

theorem has_Join : Has Tryd.prog 39 sg_strings_Join (fun x => x.1.length ≤ 140737488355328 ∧ (Lib.join (x.1.map by_) (by_ x.2)).length ≤ 140737488355328) (fun x y => by_ y.1 = Lib.join (x.1.map by_) (by_ x.2)) := by
  refine Has.of_meets fun (l, sep) ⟨h1, h2⟩ => ?_
  refine ⟨(⟨(Lib.join (l.map by_) (by_ sep)).toArray⟩, ()), rfl, ?_⟩
  refine Meets.of_calls fun F w m cargs hG hfz hargs => ?_
  obtain ⟨a, b, hl, ha, hb⟩ := hargs.two
  obtain rfl : b = .string sep := hb
  have ha : Rep F w (.slice 9 .str) l [a] := ha
  obtain ⟨A, c, ad, vs, hv, hlc, hmc, hA, hel, hcell⟩ := ha.slice_inv
  obtain rfl : a = .slice A l.length c := by simpa using hv
  rw [arr2 hl]
  refine ⟨.string ⟨(Lib.join (l.map by_) (by_ sep)).toArray⟩, fun _ _ _ => rfl, ?_⟩
  rcases Nat.eq_zero_or_pos l.length with h0 | h0
  · obtain rfl : l = [] := List.length_eq_zero_iff.1 h0
    exact (Tryd.strings_Join_none A c sep w).mono fun e w' ⟨he, hw⟩ => ⟨he, hw ▸ Below.refl _ _⟩
  · obtain ⟨rfl, hF⟩ := hA h0
    have hc : ∀ j (h : j < l.length), w.cell? (ad.add j) = some (.string l[j]) := fun j h => by
      have h3 := hcell j h 0 (.string l[j]) (by rw [(hel j h).str_inv]; rfl)
      simpa [Ty.size] using h3
    obtain ⟨bk, o, sp⟩ := ad
    have hsp : sp = none := by
      have h3 := hc 0 h0
      simp only [Addr.add, if_pos] at h3
      cases sp with
      | none => rfl
      | some x =>
        exfalso
        simp only [World.cell?] at h3
        split at h3
        · simp at h3
        · cases h3
    subst hsp
    refine Tryd.strings_Join bk o c l sep w (fun j x hx => ?_) (hfz _ hF) h1 hlc h2
    obtain ⟨hj, rfl⟩ := List.getElem?_eq_some_iff.1 hx
    have h3 := hc j hj
    rcases Nat.eq_zero_or_pos j with rfl | hj0
    · simpa [Addr.add] using h3
    · rw [← h3]
      simp [Addr.add, show ¬ j = 0 by omega]
end Go.Proofs.YtgbfelpdlekbkaaDoor
end

/- The text of a value, and its length. -/
section
namespace Go.Lin
def trueL : List UInt8 := [116, 114, 117, 101]
def falseL : List UInt8 := [102, 97, 108, 115, 101]
def zipT (ks : List ByteArray) (ts : List (List UInt8)) : List (List UInt8) := List.zipWith (fun k t => by_ k ++ 58 :: t) ks ts
def partsT (m : Bool) (ks : List ByteArray) (ts : List (List UInt8)) : List (List UInt8) := if m then zipT ks ts else ts
def txt : Nat → GVal → List UInt8
  | 0, _ => []
  | d + 1, v =>
    if v.kind = 1 then quotedL (by_ v.text) else
    if v.kind = 2 then decL v.num else
    if v.kind = 3 then (if v.num = 1 then trueL else falseL) else
    if v.kind = 5 then 123 :: (Lib.join (zipT v.keys (v.kids.map (txt d))) [44] ++ [125]) else
    91 :: (Lib.join (v.kids.map (txt d)) [44] ++ [93])

theorem sumK_eq {f : GVal → Nat} {l : List GVal} {n : Nat} (h0 : 0 < n) (hn : n ≤ 300) (h : 0 < sumK f l n) : sumK f l n = n + (l.map f).sum ∧ ∀ k ∈ l, 0 < f k := by
  induction l generalizing n with
  | nil => simp [sumK]
  | cons k r ih =>
    unfold sumK at h ⊢
    split at h
    · omega
    · rename_i hk
      rw [if_neg hk]
      obtain ⟨h1, h2⟩ := ih (by omega) (by omega) h
      refine ⟨by rw [h1, List.map_cons, List.sum_cons]; omega, fun q hq => ?_⟩
      rcases List.mem_cons.1 hq with rfl | hq
      · omega
      · exact h2 q hq
theorem vsize_pos {d : Nat} {v : GVal} (h : 0 < vsize (d + 1) v) : shapeV v = true ∧ vsize (d + 1) v = 1 + (v.kids.map (vsize d)).sum ∧ (∀ k ∈ v.kids, 0 < vsize d k) ∧ v.kids.length + 1 ≤ 300 := by
  unfold vsize at h
  split at h
  · rename_i hs
    obtain ⟨h1, h2⟩ := sumK_eq (by omega) (by omega) h
    refine ⟨hs, by rw [vsize, if_pos hs, h1], h2, ?_⟩
    exact sumK_len (by omega) (show sumK (vsize d) v.kids 1 ≠ 0 by omega)
  · omega

theorem join_len (xs : List (List UInt8)) : (Lib.join xs [44]).length ≤ (xs.map fun x => x.length + 1).sum := by
  have tail : ∀ r : List (List UInt8), (Lib.joinTail [44] r).length = (r.map fun x => x.length + 1).sum := by
    intro r
    induction r with
    | nil => rfl
    | cons x r ih =>
      unfold Lib.joinTail at ih ⊢
      rw [List.map_cons, List.flatten_cons, List.length_append, ih, List.map_cons, List.sum_cons]
      simp
  cases xs with
  | nil => simp [Lib.join_nil]
  | cons x r =>
    rw [Lib.join_cons, List.length_append, tail, List.map_cons, List.sum_cons]
    omega
theorem sum_le {α : Type} {l : List α} {f g : α → Nat} (h : ∀ x ∈ l, f x ≤ g x) : (l.map f).sum ≤ (l.map g).sum := by
  induction l with
  | nil => simp
  | cons x l ih =>
    simp only [List.map_cons, List.sum_cons]
    have := h x (by simp)
    have := ih fun y hy => h y (by simp [hy])
    omega
theorem sum_lin (l : List GVal) (f : GVal → Nat) (a b : Nat) (h : ∀ k ∈ l, b ≤ a * f k) : (l.map fun k => a * f k - b).sum + b * l.length = a * (l.map f).sum := by
  induction l with
  | nil => simp
  | cons x l ih =>
    have h1 := ih fun y hy => h y (by simp [hy])
    have h2 := h x (by simp)
    simp only [List.map_cons, List.sum_cons, List.length_cons, Nat.mul_add, Nat.mul_succ]
    omega
theorem name_len {s : ByteArray} (h : nameOk s = true) : s.size ≤ 20 := by
  simp only [nameOk, nameEnds, Bool.and_eq_true, decide_eq_true_eq] at h
  omega
theorem keysFrom_names {p : Option ByteArray} {l : List ByteArray} (h : keysFrom p l = true) : ∀ k ∈ l, nameOk k = true := by
  induction l generalizing p with
  | nil => simp
  | cons a r ih =>
    rw [keysFrom_cons] at h
    simp only [Bool.and_eq_true] at h
    intro k hk
    rcases List.mem_cons.1 hk with rfl | hk
    · exact h.1.1
    · exact ih h.2 k hk
theorem zip_sum {d : Nat} : ∀ (ks : List ByteArray) (vs : List GVal), ks.length = vs.length → (∀ k ∈ ks, k.size ≤ 20) → ((zipT ks (vs.map (txt d))).map fun x => x.length + 1).sum ≤ (vs.map fun v => (txt d v).length + 22).sum
  | [], [], _, _ => by simp [zipT]
  | k :: ks, v :: vs, h, hk => by
    have ih := zip_sum (d := d) ks vs (by simpa using h) fun q hq => hk q (by simp [hq])
    have hk1 := hk k (by simp)
    simp only [zipT, List.map_cons, List.zipWith_cons_cons, List.sum_cons, List.length_append, List.length_cons, by_len] at ih ⊢
    omega
  | [], _ :: _, h, _ => by simp at h
  | _ :: _, [], h, _ => by simp at h

theorem shape_text {v : GVal} (h : shapeV v = true) (hk : v.kind = 1) : v.text.size ≤ 100 := by
  simp only [shapeV, hk] at h
  simp [textOk] at h
  exact h.1.2
theorem shape_map {v : GVal} (h : shapeV v = true) (hk : v.kind = 5) : keysOk v.keys = true ∧ v.keys.length = v.kids.length := by
  simp only [shapeV, hk] at h
  simp at h
  exact h.1

theorem txt_len {d : Nat} {v : GVal} (hv : Fine v) (h : 0 < vsize d v) : (txt d v).length + 30 ≤ 400 * vsize d v := by
  induction d generalizing v with
  | zero => simp [vsize] at h
  | succ d ih =>
    obtain ⟨hs, he, hk, hl⟩ := vsize_pos h
    obtain ⟨_, _, _, hnum, hkids⟩ := hv.parts
    have hsum : (v.kids.map fun k => (txt d k).length + 22).sum + 8 * v.kids.length ≤ 400 * (v.kids.map (vsize d)).sum := by
      have h1 := sum_lin v.kids (vsize d) 400 8 fun k hq => by have := hk k hq; omega
      have h2 : (v.kids.map fun k => (txt d k).length + 22).sum ≤ (v.kids.map fun k => 400 * vsize d k - 8).sum := sum_le fun k hq => by
        have := ih (hkids k hq) (hk k hq)
        omega
      omega
    unfold txt
    split
    · rename_i h1
      have := shape_text hs h1
      have := esc_len (by_ v.text)
      rw [by_len] at this
      simp only [quotedL, List.length_cons, List.length_append, List.length_nil]
      omega
    · split
      · have := decL_len hnum
        omega
      · split
        · split
          · have : trueL.length = 4 := rfl
            omega
          · have : falseL.length = 5 := rfl
            omega
        · split
          · rename_i h5
            obtain ⟨h6, h7⟩ := shape_map hs h5
            have h8 := zip_sum (d := d) v.keys v.kids h7 fun k hq => name_len (keysFrom_names h6 k hq)
            have h9 := join_len (zipT v.keys (v.kids.map (txt d)))
            simp only [List.length_cons, List.length_append, List.length_nil]
            omega
          · have h9 := join_len (v.kids.map (txt d))
            have h10 : ((v.kids.map (txt d)).map fun x => x.length + 1).sum ≤ (v.kids.map fun k => (txt d k).length + 22).sum := by
              rw [List.map_map]
              exact sum_le fun k _ => by simp only [Function.comp]; omega
            simp only [List.length_cons, List.length_append, List.length_nil]
            omega
end Go.Lin
end

/- Values written. -/
section
namespace Go.Lin
def rest (m : Bool) (d : Nat) (ks : List ByteArray) (kids : List GVal) : List (List UInt8) := if m then zipT ks (kids.map (txt d)) else kids.map (txt d)
def wrapT (m : Bool) (l : List UInt8) : List UInt8 := if m then 123 :: (l ++ [125]) else 91 :: (l ++ [93])
theorem rest_cons (m : Bool) (d : Nat) (ks : List ByteArray) (k : ByteArray) (kids : List GVal) (v : GVal) : rest m d (k :: ks) (v :: kids) = (if m then by_ k ++ 58 :: txt d v else txt d v) :: rest m d ks kids := by
  cases m <;> rfl
end Go.Lin
namespace Go.Proofs.YtgbfelpdlekbkaaDoor
open Go Go.Proofs Go.Lin Go.RowKit

theorem size_app (s t : ByteArray) : (s ++ t).size = s.size + t.size := by
  rw [← by_len, by_app, List.length_append, by_len, by_len]

theorem written_loop {S : GVal → Option (ByteArray × Unit)} {S1 : ByteArray → Option (ByteArray × Unit)} {S2 : Int → Option (ByteArray × Unit)} {S3 : List ByteArray × ByteArray → Option (ByteArray × Unit)} (d : Nat)
    (kind : Int) (t : ByteArray) (m : Int) (keys : List ByteArray) (kids : List GVal) (hS : ∀ k ∈ kids, ∃ y, S k = some y ∧ by_ y.1 = txt d k ∧ y.1.size ≤ 120000)
    (h3 : ∀ l : List ByteArray, l.length ≤ 300 → (Lib.join (l.map by_) [44]).length ≤ 200000 → ∃ y, S3 (l, bs [44]) = some y ∧ by_ y.1 = Lib.join (l.map by_) [44])
    (hk : kind = 5 → keys.length = kids.length ∧ ∀ k ∈ keys, k.size ≤ 20) (hl : kids.length ≤ 300) :
    ∀ (n i : Nat) (parts : List ByteArray), i ≤ kids.length → parts.length = i → kids.length - i < n → (Lib.join (parts.map by_ ++ rest (kind == 5) d (keys.drop i) (kids.drop i)) [44]).length ≤ 200000 →
      ∃ y, go (impl_written.step S S1 S2 S3) n (.L0 kids (kids.length : Int) (i : Int) kind t m keys kids parts) = some y ∧ by_ y.1 = wrapT (kind == 5) (Lib.join (parts.map by_ ++ rest (kind == 5) d (keys.drop i) (kids.drop i)) [44]) := by
  intro n
  induction n with
  | zero => intro i parts _ _ h; omega
  | succ n ih =>
    intro i parts hi hp hn hlen
    show ∃ y, impl_written.step S S1 S2 S3 (go (impl_written.step S S1 S2 S3) n) _ = _ ∧ _
    rcases Nat.lt_or_ge i kids.length with hlt | hge
    · obtain ⟨y1, hy1, e1, s1⟩ := hS _ (List.getElem_mem hlt)
      have hi0 : (0 : Int) ≤ (i : Int) := by omega
      cases h5 : kind == 5 with
      | true =>
        have hk5 : kind = 5 := eq_of_beq h5
        obtain ⟨hkl, hks⟩ := hk hk5
        have hlt' : i < keys.length := by omega
        have hkey := hks _ (List.getElem_mem hlt')
        have sz1 : keys[i].size + 1 ≤ 9223372036854775807 := by omega
        have sz2 : (keys[i] ++ bs [58]).size + y1.1.size ≤ 9223372036854775807 := by
          rw [size_app]
          have : (bs [58]).size = 1 := rfl
          omega
        have sz3 : (parts.length + ((keys[i] ++ bs [58] ++ y1.1) :: []).length) * 16 ≤ 140737488355328 := by
          simp only [List.length_cons, List.length_nil]
          omega
        have e2 : by_ (keys[i] ++ bs [58] ++ y1.1) = by_ keys[i] ++ 58 :: txt d kids[i] := by
          rw [by_app, by_app, e1, List.append_assoc]
          rfl
        rw [h5] at ih hlen
        rw [drop_cons hlt, drop_cons hlt', rest_cons] at hlen ⊢
        obtain ⟨y, hy, e⟩ := ih (i + 1) (parts ++ [keys[i] ++ bs [58] ++ y1.1]) (by omega) (by simp; omega) (by omega) (by
          rw [List.map_append, List.append_assoc]
          simpa only [List.map_cons, List.map_nil, e2, List.singleton_append, if_pos] using hlen)
        push_cast at hy
        refine ⟨y, ?_, ?_⟩
        · rw [← hy]
          simp only [impl_written.step, re_eq, hlt, hlt', wi hlt (show kids.length < 9223372036854775807 by omega), Int.ofNat_lt, decide_true, cond_true, hi0, Int.toNat_natCast, getD_at hlt, getD_at hlt', hy1, Option.bind_some, h5, sz1, sz2, sz3]
        · rw [e, List.map_append, List.append_assoc]
          simp only [List.map_cons, List.map_nil, e2, List.singleton_append, if_pos]
      | false =>
        have sz3 : (parts.length + (y1.1 :: []).length) * 16 ≤ 140737488355328 := by
          simp only [List.length_cons, List.length_nil]
          omega
        rw [h5] at ih hlen
        have hr : ∀ ks ks', rest false d ks (kids.drop i) = txt d kids[i] :: rest false d ks' (kids.drop (i + 1)) := fun ks ks' => by
          rw [drop_cons hlt]
          rfl
        rw [hr (keys.drop i) (keys.drop (i + 1))] at hlen ⊢
        obtain ⟨y, hy, e⟩ := ih (i + 1) (parts ++ [y1.1]) (by omega) (by simp; omega) (by omega) (by
          rw [List.map_append, List.append_assoc]
          simpa only [List.map_cons, List.map_nil, e1, List.singleton_append] using hlen)
        push_cast at hy
        refine ⟨y, ?_, ?_⟩
        · rw [← hy]
          simp only [impl_written.step, re_eq, hlt, wi hlt (show kids.length < 9223372036854775807 by omega), Int.ofNat_lt, decide_true, cond_true, cond_false, hi0, Int.toNat_natCast, getD_at hlt, hy1, Option.bind_some, h5, sz3]
        · rw [e, List.map_append, List.append_assoc]
          simp only [List.map_cons, List.map_nil, e1, List.singleton_append]
    · obtain rfl : i = kids.length := by omega
      have hlt : ¬ (kids.length : Int) < kids.length := by omega
      have hr : rest (kind == 5) d (keys.drop kids.length) (kids.drop kids.length) = [] := by
        rw [List.drop_length]
        unfold rest zipT
        split <;> simp
      rw [hr, List.append_nil] at hlen ⊢
      obtain ⟨y, hy, e⟩ := h3 parts (by omega) hlen
      have sz : y.1.size ≤ 200000 := by rw [← by_len, e]; exact hlen
      have sz1 : 1 + y.1.size ≤ 9223372036854775807 := by omega
      cases h5 : kind == 5 with
      | true =>
        have sz2 : (bs [123] ++ y.1).size + 1 ≤ 9223372036854775807 := by
          rw [size_app]
          have : (bs [123]).size = 1 := rfl
          omega
        refine ⟨(bs [123] ++ y.1 ++ bs [125], ()), ?_, ?_⟩
        · simp only [impl_written.step, hlt, decide_false, cond_false, hy, Option.bind_some, h5, cond_true, sz1, sz2, decide_true]
        · show by_ (bs [123] ++ y.1 ++ bs [125]) = _
          rw [by_app, by_app, e]
          rfl
      | false =>
        have sz2 : (bs [91] ++ y.1).size + 1 ≤ 9223372036854775807 := by
          rw [size_app]
          have : (bs [91]).size = 1 := rfl
          omega
        refine ⟨(bs [91] ++ y.1 ++ bs [93], ()), ?_, ?_⟩
        · simp only [impl_written.step, hlt, decide_false, cond_false, hy, Option.bind_some, h5, cond_true, sz1, sz2, decide_true]
        · show by_ (bs [91] ++ y.1 ++ bs [93]) = _
          rw [by_app, by_app, e]
          rfl
end Go.Proofs.YtgbfelpdlekbkaaDoor
end

/- Values written, whole. -/
section
namespace Go.Lin
theorem txt_same {d e : Nat} {v : GVal} (h : 0 < vsize d v) (h' : 0 < vsize e v) : txt d v = txt e v := by
  induction d generalizing e v with
  | zero => simp [vsize] at h
  | succ d ih =>
    cases e with
    | zero => simp [vsize] at h'
    | succ e =>
      have h1 := (vsize_pos h).2.2.1
      have h2 := (vsize_pos h').2.2.1
      have : v.kids.map (txt d) = v.kids.map (txt e) := List.map_congr_left fun k hk => ih (h1 k hk) (h2 k hk)
      unfold txt
      rw [this]
theorem shape_kind {v : GVal} (h : shapeV v = true) : v.kind = 1 ∨ v.kind = 2 ∨ v.kind = 3 ∨ v.kind = 4 ∨ v.kind = 5 := by
  unfold shapeV at h
  by_cases h1 : v.kind = 1
  · exact .inl h1
  by_cases h2 : v.kind = 2
  · exact .inr (.inl h2)
  by_cases h3 : v.kind = 3
  · exact .inr (.inr (.inl h3))
  by_cases h4 : v.kind = 4
  · exact .inr (.inr (.inr (.inl h4)))
  by_cases h5 : v.kind = 5
  · exact .inr (.inr (.inr (.inr h5)))
  · simp [h1, h2, h3, h4, h5] at h
end Go.Lin
namespace Go.Proofs.YtgbfelpdlekbkaaDoor
open Go Go.Proofs Go.Lin Go.RowKit

theorem written_body {S : GVal → Option (ByteArray × Unit)} {S1 : ByteArray → Option (ByteArray × Unit)} {S2 : Int → Option (ByteArray × Unit)} {S3 : List ByteArray × ByteArray → Option (ByteArray × Unit)} {d : Nat} {v : GVal} (hv : Fine v) (h : 0 < vsize (d + 1) v)
    (hS : ∀ k ∈ v.kids, ∃ y, S k = some y ∧ by_ y.1 = txt d k)
    (h1 : v.text.size ≤ 100 → ∃ y, S1 v.text = some y ∧ by_ y.1 = quotedL (by_ v.text)) (h2 : ∃ y, S2 v.num = some y ∧ by_ y.1 = decL v.num)
    (h3 : ∀ l : List ByteArray, l.length ≤ 300 → (Lib.join (l.map by_) [44]).length ≤ 200000 → ∃ y, S3 (l, bs [44]) = some y ∧ by_ y.1 = Lib.join (l.map by_) [44]) :
    ∃ n y, impl_written.body S S1 S2 S3 (go (impl_written.step S S1 S2 S3) n) v = some y ∧ by_ y.1 = txt (d + 1) v := by
  obtain ⟨hs, he, hk, hl⟩ := vsize_pos h
  have hlen := txt_len hv h
  have hle := vsize_le (d + 1) v
  have loop : v.kind = 4 ∨ v.kind = 5 → ∃ n y, go (impl_written.step S S1 S2 S3) n (.L0 v.kids (v.kids.length : Int) 0 v.kind v.text v.num v.keys v.kids []) = some y ∧ by_ y.1 = txt (d + 1) v := by
    intro hkind
    have e : txt (d + 1) v = wrapT (v.kind == 5) (Lib.join (rest (v.kind == 5) d v.keys v.kids) [44]) := by
      rcases hkind with h4 | h5
      · unfold txt
        rw [h4]
        rfl
      · unfold txt
        rw [h5]
        rfl
    rw [e] at hlen ⊢
    have hj : (Lib.join (rest (v.kind == 5) d v.keys v.kids) [44]).length ≤ 200000 := by
      unfold wrapT at hlen
      split at hlen <;> (simp only [List.length_cons, List.length_append] at hlen; omega)
    obtain ⟨y, hy, e2⟩ := written_loop (S := S) (S1 := S1) (S2 := S2) (S3 := S3) d v.kind v.text v.num v.keys v.kids (fun k hq => by
      obtain ⟨y, hy, e⟩ := hS k hq
      refine ⟨y, hy, e, ?_⟩
      have := txt_len (hv.parts.2.2.2.2 k hq) (hk k hq)
      have := vsize_le d k
      rw [← by_len, e]
      omega) h3 (fun h5 => by
      obtain ⟨h6, h7⟩ := shape_map hs h5
      exact ⟨h7, fun k hq => name_len (keysFrom_names h6 k hq)⟩) (by omega) (v.kids.length + 1) 0 [] (by omega) rfl (by omega) (by simpa using hj)
    exact ⟨_, y, hy, by simpa using e2⟩
  rcases shape_kind hs with hk1 | hk2 | hk3 | hk4 | hk5
  · obtain ⟨y, hy, e⟩ := h1 (shape_text hs hk1)
    refine ⟨0, (y.1, ()), ?_, ?_⟩
    · simp [impl_written.body, hk1, hy]
    · show by_ y.1 = _
      rw [e]; unfold txt; rw [if_pos hk1]
  · obtain ⟨y, hy, e⟩ := h2
    refine ⟨0, (y.1, ()), ?_, ?_⟩
    · simp [impl_written.body, hk2, hy]
    · show by_ y.1 = _
      rw [e]; unfold txt; rw [if_neg (by omega), if_pos hk2]
  · rcases Decidable.em (v.num = 1) with hn | hn
    · refine ⟨0, (bs [116, 114, 117, 101], ()), ?_, ?_⟩
      · simp [impl_written.body, hk3, hn]
      · show by_ (bs [116, 114, 117, 101]) = _
        unfold txt; rw [if_neg (by omega), if_neg (by omega), if_pos hk3, if_pos hn]; rfl
    · refine ⟨0, (bs [102, 97, 108, 115, 101], ()), ?_, ?_⟩
      · have : (v.num == 1) = false := beq_eq_false_iff_ne.2 hn
        simp [impl_written.body, hk3, this]
      · show by_ (bs [102, 97, 108, 115, 101]) = _
        unfold txt; rw [if_neg (by omega), if_neg (by omega), if_pos hk3, if_neg hn]; rfl
  · obtain ⟨n, y, hy, e⟩ := loop (.inl hk4)
    refine ⟨n, y, ?_, e⟩
    rw [← hy]
    simp [impl_written.body, hk4]
  · obtain ⟨n, y, hy, e⟩ := loop (.inr hk5)
    refine ⟨n, y, ?_, e⟩
    rw [← hy]
    simp [impl_written.body, hk5]

theorem has_written : Has Tryd.prog 19 sg_impl_written (fun v => Fine v ∧ ∃ d, 0 < vsize d v) (fun v y => ∀ d, 0 < vsize d v → by_ y.1 = txt d v) := by
  obtain ⟨S1, hc1, hS1⟩ := has_quoted
  obtain ⟨S2, hc2, hS2⟩ := has_decimal
  obtain ⟨S3, hc3, hS3⟩ := has_Join
  refine (Has.recN (sg := sg_impl_written) (Pre := fun d v => Fine v ∧ 0 < vsize d v) (fun x ⟨_, h⟩ => by simp [vsize] at h) fun d S hc hS => ?_).mono (fun v ⟨hv, d, h⟩ => ⟨d, hv, h⟩) fun _ _ _ h => h
  refine Has.of_go (impl_written.con S S1 S2 S3 hc hc1 hc2 hc3) fun v ⟨hv, h⟩ => ?_
  obtain ⟨n, y, hy, e⟩ := written_body (S := S) (S1 := S1) (S2 := S2) (S3 := S3) hv h
    (fun k hk => let ⟨y, h1, h2⟩ := hS k ⟨hv.parts.2.2.2.2 k hk, (vsize_pos h).2.2.1 k hk⟩; ⟨y, h1, h2 d ((vsize_pos h).2.2.1 k hk)⟩)
    (fun hl => hS1 v.text (show v.text.size < 1000000 by omega)) (hS2 v.num hv.parts.2.2.2.1)
    (fun l h1 h2 => hS3 (l, bs [44]) ⟨show l.length ≤ 140737488355328 by omega, show (Lib.join (l.map by_) [44]).length ≤ 140737488355328 by omega⟩)
  exact ⟨n, y, hy, fun e' he' => e.trans (txt_same h he')⟩

theorem ValueText_body {S : GVal → Option (Bool × Unit)} {S1 : GVal → Option (ByteArray × Unit)} {v : GVal} (h : S v = some (okV v, ())) (h1 : 0 < vsize 6 v → ∃ y, S1 v = some y ∧ by_ y.1 = txt 6 v) :
    ∃ y, impl_ValueText.body S S1 v = some y ∧ by_ y.1 = if okV v then txt 6 v else [] := by
  cases ho : okV v with
  | false => exact ⟨(bs [], ()), by simp [impl_ValueText.body, re_eq, h, ho], rfl⟩
  | true =>
    obtain ⟨y, hy, e⟩ := h1 (by simpa [okV] using ho)
    exact ⟨(y.1, ()), by simp [impl_ValueText.body, re_eq, h, ho, hy], by rw [if_pos rfl]; exact e⟩
theorem has_ValueText : Has Tryd.prog 7 sg_impl_ValueText Fine (fun v y => by_ y.1 = if okV v then txt 6 v else []) := by
  obtain ⟨S, hc, hS⟩ := has_impl_ValueOk
  obtain ⟨S1, hc1, hS1⟩ := has_written
  exact Has.of (impl_ValueText.con S S1 hc hc1) fun v hv => ValueText_body (hS.eq hv) fun h => let ⟨y, a, b⟩ := hS1 v ⟨hv, 6, h⟩; ⟨y, a, b 6 h⟩
end Go.Proofs.YtgbfelpdlekbkaaDoor
end

/- The parser's small steps. -/
section
namespace Go.Lin
def pre (s t : ByteArray) : Bool := (by_ t).isPrefixOf (by_ s)
def cut (s t : ByteArray) : ByteArray := if pre s t then s.extract t.size s.size else s
theorem by_cut (s t : ByteArray) : by_ (cut s t) = if pre s t then (by_ s).drop (by_ t).length else by_ s := by
  unfold cut
  split
  · rw [by_ext, List.take_of_length_le (by rw [by_len]; exact Nat.le_refl _), by_len]
  · rfl
theorem pre_len {s t : ByteArray} (h : pre s t = true) : t.size ≤ s.size := by
  have := (List.isPrefixOf_iff_prefix.1 h).length_le
  rwa [by_len, by_len] at this
theorem pre_iff (s t : ByteArray) : pre s t = decide (s.extract 0 t.size = t) := by
  have hd : by_ (s.extract 0 t.size) = (by_ s).take (by_ t).length := by rw [by_ext, by_len, List.drop_zero]
  rw [Bool.eq_iff_iff, decide_eq_true_eq]
  unfold pre
  rw [List.isPrefixOf_iff_prefix, List.prefix_iff_eq_take]
  constructor
  · intro e
    exact by_inj (hd.trans e.symm)
  · intro e
    rw [← hd, e]
theorem indexAny_parts (chars : List UInt8) : ∀ l : List UInt8, (Lib.indexAny l chars = -1 ∧ l.takeWhile (fun b => !chars.contains b) = l ∧ l.dropWhile (fun b => !chars.contains b) = []) ∨
    ∃ i : Nat, i < l.length ∧ Lib.indexAny l chars = (i : Int) ∧ l.takeWhile (fun b => !chars.contains b) = l.take i ∧ l.dropWhile (fun b => !chars.contains b) = l.drop i := by
  intro l
  induction l with
  | nil => exact .inl ⟨rfl, rfl, rfl⟩
  | cons b l ih =>
    unfold Lib.indexAny
    cases hb : chars.contains b with
    | true => exact .inr ⟨0, by simp, by simp, by rw [List.takeWhile_cons, hb]; rfl, by rw [List.dropWhile_cons, hb]; rfl⟩
    | false =>
      rcases ih with ⟨h1, h2, h3⟩ | ⟨i, hi, h1, h2, h3⟩
      · exact .inl ⟨by simp [h1], by rw [List.takeWhile_cons, hb]; simp only [Bool.not_false, if_pos, h2], by rw [List.dropWhile_cons, hb]; simp only [Bool.not_false, if_pos, h3]⟩
      · refine .inr ⟨i + 1, Nat.succ_lt_succ hi, ?_, by rw [List.takeWhile_cons, hb]; simp only [Bool.not_false, if_pos, h2, List.take_succ_cons], by rw [List.dropWhile_cons, hb]; simp only [Bool.not_false, if_pos, h3, List.drop_succ_cons]⟩
        have : ¬ ((i : Int) == -1) = true := fun h => by have := eq_of_beq h; omega
        rw [h1, if_neg (by simp), if_neg this]
        rfl
def ascii (s : ByteArray) : Prop := ∀ b ∈ by_ s, b.toNat < 128
theorem ascii_at {s : ByteArray} (h : ascii s) (j : Nat) (b : UInt8) (hb : s.data.toList[j]? = some b) : b.toNat < 128 := h b (List.mem_of_getElem? hb)
end Go.Lin
namespace Go.Proofs.YtgbfelpdlekbkaaDoor
open Go Go.Proofs Go.Lin Go.RowKit

theorem HasPrefix_body (s t : ByteArray) : stringslite_HasPrefix.body s t = some (pre s t, ()) := by
  unfold stringslite_HasPrefix.body
  rcases Nat.lt_or_ge s.size t.size with h | h
  · have h1 : ¬ (t.size : Int) ≤ s.size := by omega
    have h2 : pre s t = false := by
      rw [Bool.eq_false_iff]
      intro h'
      have := pre_len h'
      omega
    rw [decide_eq_false h1, h2]
    rfl
  · have h1 : (t.size : Int) ≤ s.size := by omega
    rw [decide_eq_true h1, cond_true, cond_true, seq_eq, Int.toNat_natCast, pre_iff]
theorem has_HasPrefix : Has Tryd.prog 95 sg_stringslite_HasPrefix (fun _ => True) (fun x y => y = (pre x.1 x.2, ())) :=
  Has.of stringslite_HasPrefix.con fun (s, t) _ => ⟨_, HasPrefix_body s t, rfl⟩
theorem CutPrefix_body {S : ByteArray × ByteArray → Option (Bool × Unit)} (s t : ByteArray) (hS : S (s, t) = some (pre s t, ())) : stringslite_CutPrefix.body S s t = some ((cut s t, pre s t), ()) := by
  unfold stringslite_CutPrefix.body cut
  rw [hS, Option.bind_some]
  cases h : pre s t with
  | false => rfl
  | true =>
    have := pre_len h
    have h1 : (t.size : Int) ≤ s.size := by omega
    rw [decide_eq_true (Int.le_refl _), decide_eq_true h1]
    rfl
theorem has_CutPrefix0 : Has Tryd.prog 81 sg_stringslite_CutPrefix (fun _ => True) (fun x y => y = ((cut x.1 x.2, pre x.1 x.2), ())) := by
  obtain ⟨S, hc, hS⟩ := has_HasPrefix
  exact Has.of (stringslite_CutPrefix.con S hc) fun (s, t) _ => ⟨_, CutPrefix_body s t (hS.eq trivial), rfl⟩
theorem CutPrefix1_body {S : ByteArray × ByteArray → Option ((ByteArray × Bool) × Unit)} (s t : ByteArray) (hS : S (s, t) = some ((cut s t, pre s t), ())) : strings_CutPrefix.body S s t = some ((cut s t, pre s t), ()) := by
  unfold strings_CutPrefix.body
  rw [hS]
  rfl
theorem has_CutPrefix : Has Tryd.prog 69 sg_strings_CutPrefix (fun _ => True) (fun x y => y = ((cut x.1 x.2, pre x.1 x.2), ())) := by
  obtain ⟨S, hc, hS⟩ := has_CutPrefix0
  exact Has.of (strings_CutPrefix.con S hc) fun (s, t) _ => ⟨_, CutPrefix1_body s t (hS.eq trivial), rfl⟩
theorem TrimPrefix_body {S : ByteArray × ByteArray → Option (Bool × Unit)} (s t : ByteArray) (hS : S (s, t) = some (pre s t, ())) : stringslite_TrimPrefix.body S s t = some (cut s t, ()) := by
  unfold stringslite_TrimPrefix.body cut
  rw [hS, Option.bind_some]
  cases h : pre s t with
  | false => rfl
  | true =>
    have := pre_len h
    have h1 : (t.size : Int) ≤ s.size := by omega
    rw [decide_eq_true (Int.le_refl _), decide_eq_true h1]
    rfl
theorem has_TrimPrefix0 : Has Tryd.prog 86 sg_stringslite_TrimPrefix (fun _ => True) (fun x y => y = (cut x.1 x.2, ())) := by
  obtain ⟨S, hc, hS⟩ := has_HasPrefix
  exact Has.of (stringslite_TrimPrefix.con S hc) fun (s, t) _ => ⟨_, TrimPrefix_body s t (hS.eq trivial), rfl⟩
theorem TrimPrefix1_body {S : ByteArray × ByteArray → Option (ByteArray × Unit)} (s t : ByteArray) (hS : S (s, t) = some (cut s t, ())) : strings_TrimPrefix.body S s t = some (cut s t, ()) := by
  unfold strings_TrimPrefix.body
  rw [hS]
  rfl
theorem has_TrimPrefix : Has Tryd.prog 72 sg_strings_TrimPrefix (fun _ => True) (fun x y => y = (cut x.1 x.2, ())) := by
  obtain ⟨S, hc, hS⟩ := has_TrimPrefix0
  exact Has.of (strings_TrimPrefix.con S hc) fun (s, t) _ => ⟨_, TrimPrefix1_body s t (hS.eq trivial), rfl⟩

theorem take_body {S : ByteArray × ByteArray → Option ((ByteArray × Bool) × Unit)} (s : ByteArray) (ok : Bool) (t : ByteArray) (hS : S (s, t) = some ((cut s t, pre s t), ())) : impl_parser_take.body S s ok t = some (pre s t, (cut s t, ok)) := by
  unfold impl_parser_take.body
  rw [hS]
  rfl
theorem has_take : Has Tryd.prog 44 sg_impl_parser_take (fun _ => True) (fun x y => y = (pre x.1.1 x.2, (cut x.1.1 x.2, x.1.2))) := by
  obtain ⟨S, hc, hS⟩ := has_CutPrefix
  exact Has.of (impl_parser_take.con S hc) fun ((s, ok), t) _ => ⟨_, take_body s ok t (hS.eq trivial), rfl⟩
theorem need_body {S : (ByteArray × Bool) × ByteArray → Option (Bool × (ByteArray × Bool))} (s : ByteArray) (ok : Bool) (t : ByteArray) (hS : S ((s, ok), t) = some (pre s t, (cut s t, ok))) : impl_parser_need.body S s ok t = some ((), (cut s t, ok && pre s t)) := by
  unfold impl_parser_need.body
  rw [hS, Option.bind_some]
  cases pre s t <;> cases ok <;> rfl
theorem has_need : Has Tryd.prog 70 sg_impl_parser_need (fun _ => True) (fun x y => y = ((), (cut x.1.1 x.2, x.1.2 && pre x.1.1 x.2))) := by
  obtain ⟨S, hc, hS⟩ := has_take
  exact Has.of (impl_parser_need.con S hc) fun ((s, ok), t) _ => ⟨_, need_body s ok t (hS.eq trivial), rfl⟩

theorem has_IndexAny : Has Tryd.prog 71 sg_strings_IndexAny (fun x => x.1.size < 4294967281 ∧ x.2.size < 4294967281 ∧ ascii x.2 ∧ (x.2.size = 1 ∨ ascii x.1)) (fun x y => y = (Lib.indexAny (by_ x.1) (by_ x.2), ())) := by
  refine Has.of_meets fun (s, t) ⟨h1, h2, h3, h4⟩ => ⟨(Lib.indexAny (by_ s) (by_ t), ()), rfl, ?_⟩
  refine Meets.of_calls fun F w m cargs hG hfz hargs => ?_
  obtain ⟨a, b, hl, ha, hb⟩ := hargs.two
  obtain rfl : a = .string s := ha
  obtain rfl : b = .string t := hb
  rw [arr2 hl]
  refine ⟨.int .i64 (Lib.indexAny (by_ s) (by_ t)), fun _ _ _ => rfl, ?_⟩
  rcases h4 with h4 | h4
  · exact (Tryd.strings_IndexAny_one s t w h4 (ascii_at h3)).mono fun e w' ⟨he, hw⟩ => ⟨he, hw ▸ Below.refl _ _⟩
  · exact Tryd.strings_IndexAny_laid s t w h1 h2 (ascii_at h4) (ascii_at h3)

def tillA (s t : ByteArray) : List UInt8 := (by_ s).takeWhile fun b => !(by_ t).contains b
def tillB (s t : ByteArray) : List UInt8 := (by_ s).dropWhile fun b => !(by_ t).contains b
theorem till_body {S : ByteArray × ByteArray → Option (Int × Unit)} (s : ByteArray) (ok : Bool) (t : ByteArray) (hs : s.size < 4294967281) (hS : S (s, t) = some (Lib.indexAny (by_ s) (by_ t), ())) :
    ∃ y, impl_parser_till.body S s ok t = some y ∧ by_ y.1 = tillA s t ∧ by_ y.2.1 = tillB s t ∧ y.2.2 = ok := by
  unfold impl_parser_till.body tillA tillB
  rw [hS, Option.bind_some]
  have hsz : (0 : Int) ≤ (s.size : Int) := by omega
  rcases indexAny_parts (by_ t) (by_ s) with ⟨h1, h2, h3⟩ | ⟨i, hi, h1, h2, h3⟩
  · refine ⟨(s.extract 0 s.size, (s.extract s.size s.size, ok)), ?_, ?_, ?_, rfl⟩
    · simp [h1]
    · rw [h2]
      show by_ (s.extract 0 s.size) = _
      rw [by_ext, List.take_of_length_le (by rw [by_len]; exact Nat.le_refl _), List.drop_zero]
    · rw [h3]
      show by_ (s.extract s.size s.size) = _
      rw [by_ext, List.take_of_length_le (by rw [by_len]; exact Nat.le_refl _), List.drop_of_length_le (by rw [by_len]; exact Nat.le_refl _)]
  · rw [by_len] at hi
    refine ⟨(s.extract 0 i, (s.extract i s.size, ok)), ?_, ?_, ?_, rfl⟩
    · have e1 : ¬ (i : Int) < 0 := by omega
      have e2 : (0 : Int) ≤ i := by omega
      have e3 : (i : Int) ≤ s.size := by omega
      simp only [h1, e1, e2, e3, decide_false, decide_true, cond_false, cond_true, Int.le_refl, Int.toNat_natCast]
    · rw [h2]
      show by_ (s.extract 0 i) = _
      rw [by_ext, List.drop_zero]
    · rw [h3]
      show by_ (s.extract i s.size) = _
      rw [by_ext, List.take_of_length_le (by rw [by_len]; exact Nat.le_refl _)]
theorem has_till : Has Tryd.prog 47 sg_impl_parser_till (fun x => x.1.1.size < 4294967281 ∧ x.2.size < 4294967281 ∧ ascii x.2 ∧ (x.2.size = 1 ∨ ascii x.1.1))
    (fun x y => by_ y.1 = tillA x.1.1 x.2 ∧ by_ y.2.1 = tillB x.1.1 x.2 ∧ y.2.2 = x.1.2) := by
  obtain ⟨S, hc, hS⟩ := has_IndexAny
  exact Has.of (impl_parser_till.con S hc) fun ((s, ok), t) h => till_body s ok t h.1 (hS.eq (x := (s, t)) h)
end Go.Proofs.YtgbfelpdlekbkaaDoor
end

/- Texts and numbers read back. -/
section
namespace Go.Lin
theorem bt0 {s : ByteArray} {c : UInt8} {l : List UInt8} (h : by_ s = c :: l) : bt s 0 = (c.toNat : Int) := by
  have hs : 0 < s.size := by rw [← by_len, h]; simp
  have := bt_at hs
  simp only [h] at this
  simpa using this
theorem tl (s : ByteArray) : by_ (s.extract 1 s.size) = (by_ s).drop 1 := by
  rw [by_ext, List.take_of_length_le (by rw [by_len]; exact Nat.le_refl _)]
theorem ne_empty {s : ByteArray} {c : UInt8} {l : List UInt8} (h : by_ s = c :: l) : seq_ s (bs []) = false := by
  rw [seq_eq]
  apply decide_eq_false
  rintro rfl
  cases h
def toI (l : List UInt8) : List Int := l.map fun b => (b.toNat : Int)
theorem by_ofBytes (l : List UInt8) : by_ (ofBytes (toI l)) = l := by
  simp only [by_, ofBytes, toI, List.map_map]
  have : ((fun n : Int => UInt8.ofNat n.toNat) ∘ fun b : UInt8 => (b.toNat : Int)) = id := by
    funext b
    simp
  rw [this]
  simp
theorem toI_app (l : List UInt8) (b : UInt8) : toI (l ++ [b]) = toI l ++ [(b.toNat : Int)] := by simp [toI]
end Go.Lin
namespace Go.Proofs.YtgbfelpdlekbkaaDoor
open Go Go.Proofs Go.Lin Go.RowKit

theorem text_loop (r : List UInt8) : ∀ (t : List UInt8) (n : Nat) (s : ByteArray) (out : List UInt8), by_ s = esc t ++ 34 :: r → t.length < n → out.length + t.length < 1000000 →
    ∃ y, go impl_parser_text.step n (.L0 s true (toI out)) = some y ∧ by_ y.1 = out ++ t ∧ by_ y.2.1 = r ∧ y.2.2 = true := by
  intro t
  induction t with
  | nil =>
    intro n s out hs hn hl
    obtain ⟨n, rfl⟩ : ∃ m, n = m + 1 := ⟨n - 1, by simp at hn; omega⟩
    show ∃ y, impl_parser_text.step (go impl_parser_text.step n) _ = _ ∧ _
    have hs : by_ s = 34 :: r := hs
    have h0 : (0 : Int) < (s.size : Int) := by
      have : 0 < s.size := by rw [← by_len, hs]; simp
      omega
    have h1 : (1 : Int) ≤ (s.size : Int) := by omega
    refine ⟨(ofBytes (toI out), (s.extract 1 s.size, true)), ?_, ?_, ?_, rfl⟩
    · simp only [impl_parser_text.step, ne_empty hs, bt0 hs, h0, h1, Int.le_refl, decide_true, cond_true, Bool.not_false, Int.toNat_natCast]
      rfl
    · rw [List.append_nil]; exact by_ofBytes out
    · show by_ (s.extract 1 s.size) = r
      rw [tl, hs]
      rfl
  | cons b t ih =>
    intro n s out hs hn hl
    obtain ⟨n, rfl⟩ : ∃ m, n = m + 1 := ⟨n - 1, by simp at hn; omega⟩
    show ∃ y, impl_parser_text.step (go impl_parser_text.step n) _ = _ ∧ _
    simp only [List.length_cons] at hn hl
    have hol : (toI out).length = out.length := by simp [toI]
    have cap : ((toI out).length + ((b.toNat : Int) :: []).length) * 1 ≤ 140737488355328 := by
      simp only [List.length_cons, List.length_nil, hol]
      omega
    by_cases hb : b = 34 ∨ b = 92
    · have hs : by_ s = 92 :: b :: (esc t ++ 34 :: r) := by
        rw [hs]
        unfold esc
        rw [List.flatMap_cons, if_pos hb]
        rfl
      have hs2 : by_ (s.extract 1 s.size) = b :: (esc t ++ 34 :: r) := by rw [tl, hs]; rfl
      generalize hs2e : s.extract 1 s.size = s2 at hs2
      have hs3 : by_ (s2.extract 1 s2.size) = esc t ++ 34 :: r := by rw [tl, hs2]; rfl
      have h0 : (0 : Int) < (s.size : Int) := by
        have : 0 < s.size := by rw [← by_len, hs]; simp
        omega
      have h1 : (1 : Int) ≤ (s.size : Int) := by omega
      have h02 : (0 : Int) < (s2.size : Int) := by
        have : 0 < s2.size := by rw [← by_len, hs2]; simp
        omega
      have h12 : (1 : Int) ≤ (s2.size : Int) := by omega
      obtain ⟨y, hy, e1, e2, e3⟩ := ih n (s2.extract 1 s2.size) (out ++ [b]) hs3 (by omega) (by simp; omega)
      rw [toI_app] at hy
      refine ⟨y, ?_, by rw [e1]; simp, e2, e3⟩
      rw [← hy]
      simp only [impl_parser_text.step, ne_empty hs, bt0 hs, h0, h1, h02, h12, hs2e, ne_empty hs2, bt0 hs2, cap, Int.le_refl, decide_true, cond_true, Bool.not_false, Int.toNat_natCast]
      rfl
    · have hs : by_ s = b :: (esc t ++ 34 :: r) := by
        rw [hs]
        unfold esc
        rw [List.flatMap_cons, if_neg hb]
        rfl
      have hs2 : by_ (s.extract 1 s.size) = esc t ++ 34 :: r := by rw [tl, hs]; rfl
      have h0 : (0 : Int) < (s.size : Int) := by
        have : 0 < s.size := by rw [← by_len, hs]; simp
        omega
      have h1 : (1 : Int) ≤ (s.size : Int) := by omega
      have c1 : ((b.toNat : Int) == 34) = false := by
        rw [beq_eq_false_iff_ne]
        intro e
        exact hb (.inl (UInt8.toNat_inj.1 (show b.toNat = 34 by omega)))
      have c2 : ((b.toNat : Int) == 92) = false := by
        rw [beq_eq_false_iff_ne]
        intro e
        exact hb (.inr (UInt8.toNat_inj.1 (show b.toNat = 92 by omega)))
      obtain ⟨y, hy, e1, e2, e3⟩ := ih n (s.extract 1 s.size) (out ++ [b]) hs2 (by omega) (by simp; omega)
      rw [toI_app] at hy
      refine ⟨y, ?_, by rw [e1]; simp, e2, e3⟩
      rw [← hy]
      simp only [impl_parser_text.step, ne_empty hs, bt0 hs, h0, h1, c1, c2, cap, Int.le_refl, decide_true, cond_true, cond_false, Bool.not_false, Int.toNat_natCast]
theorem has_text : Has Tryd.prog 45 sg_impl_parser_text (fun x => x.2 = true ∧ ∃ t r, t.length ≤ 100 ∧ by_ x.1 = esc t ++ 34 :: r) (fun x y => ∀ t r, t.length ≤ 100 → by_ x.1 = esc t ++ 34 :: r → by_ y.1 = t ∧ by_ y.2.1 = r ∧ y.2.2 = true) := by
  refine Has.of_go (S := fun n (s, ok) => impl_parser_text.body (go impl_parser_text.step n) s ok) (sg := sg_impl_parser_text) impl_parser_text.con fun (s, ok) ⟨hok, t, r, hl, hs⟩ => ?_
  obtain rfl : ok = true := hok
  obtain ⟨y, hy, e⟩ := text_loop r t 101 s [] hs (by omega) (by simp; omega)
  refine ⟨101, y, hy, fun t' r' hl' hs' => ?_⟩
  obtain ⟨y', hy', e'⟩ := text_loop r' t' 101 s [] hs' (by omega) (by simp; omega)
  obtain rfl : y = y' := Option.some.inj (hy.symm.trans hy')
  simpa using e'
end Go.Proofs.YtgbfelpdlekbkaaDoor
end

/- Numbers read back. -/
section
namespace Go.Lin
def isDig (c : UInt8) : Prop := 48 ≤ c.toNat ∧ c.toNat ≤ 57
def valD (l : List UInt8) : Nat := l.foldl (fun a c => 10 * a + (c.toNat - 48)) 0
theorem valD_snoc (l : List UInt8) (c : UInt8) : valD (l ++ [c]) = 10 * valD l + (c.toNat - 48) := by simp [valD]
theorem dig_nat (d : Nat) (h : d < 10) : (UInt8.ofNat (48 + d)).toNat = 48 + d := by
  obtain rfl | rfl | rfl | rfl | rfl | rfl | rfl | rfl | rfl | rfl : d = 0 ∨ d = 1 ∨ d = 2 ∨ d = 3 ∨ d = 4 ∨ d = 5 ∨ d = 6 ∨ d = 7 ∨ d = 8 ∨ d = 9 := by omega
  all_goals rfl
theorem decN_dig (n : Nat) : ∀ c ∈ decN n, isDig c := by
  induction n using Nat.strongRecOn with
  | ind n ih =>
    intro c hc
    by_cases h : n < 10
    · rw [decN_small h] at hc
      simp only [List.mem_singleton] at hc
      subst hc
      have := dig_nat n h
      unfold isDig
      omega
    · rw [decN_big h] at hc
      rcases List.mem_append.1 hc with hc | hc
      · exact ih (n / 10) (by omega) c hc
      · simp only [List.mem_singleton] at hc
        subst hc
        have := dig_nat (n % 10) (by omega)
        unfold isDig
        omega
theorem decN_val (n : Nat) : valD (decN n) = n := by
  induction n using Nat.strongRecOn with
  | ind n ih =>
    by_cases h : n < 10
    · rw [decN_small h]
      have := dig_nat n h
      simp only [valD, List.foldl_cons, List.foldl_nil]
      omega
    · rw [decN_big h, valD_snoc, ih (n / 10) (by omega)]
      have := dig_nat (n % 10) (by omega)
      omega
theorem decN_ne (n : Nat) : decN n ≠ [] := by
  by_cases h : n < 10
  · rw [decN_small h]; simp
  · rw [decN_big h]; simp
theorem valD_take (l : List UInt8) (i : Nat) : valD (l.take i) ≤ valD l := by
  have step : ∀ (l' l : List UInt8), valD l ≤ valD (l ++ l') := by
    intro l'
    induction l' with
    | nil => intro l; simp
    | cons c l' ih =>
      intro l
      have h1 := ih (l ++ [c])
      rw [List.append_assoc] at h1
      have h2 := valD_snoc l c
      simp only [List.cons_append, List.nil_append] at h1
      omega
  have := step (l.drop i) (l.take i)
  rwa [List.take_append_drop] at this
end Go.Lin
namespace Go.Proofs.YtgbfelpdlekbkaaDoor
open Go Go.Proofs Go.Lin Go.RowKit

theorem integer_loop {S : Int → Option (ByteArray × Unit)} {S1 : ByteArray × ByteArray → Option (ByteArray × Unit)} (s t : ByteArray) (m : Nat) (hm : m ≤ 9223372036854775808) (ht : by_ t = decN m) {y : (Int × Bool) × Unit}
    (hfin : ∀ rec, impl_integer.step S S1 rec (.L0 s t (-(m : Int)) (t.size : Int) (t.size : Int)) = some y) (hsz : t.size ≤ 19) :
    ∀ (n i : Nat), i ≤ t.size → t.size - i < n → go (impl_integer.step S S1) n (.L0 s t (-(valD ((by_ t).take i) : Int)) (t.size : Int) (i : Int)) = some y := by
  have hval : valD (by_ t) = m := by rw [ht, decN_val]
  intro n
  induction n with
  | zero => intro i _ h; omega
  | succ n ih =>
    intro i hi hn
    show impl_integer.step S S1 (go (impl_integer.step S S1) n) _ = _
    rcases Nat.lt_or_ge i t.size with hlt | hge
    · have hb : i < (by_ t).length := by rw [by_len]; exact hlt
      have hd : isDig (by_ t)[i] := decN_dig m _ (by rw [← ht]; exact List.getElem_mem hb)
      have ht1 : valD ((by_ t).take (i + 1)) = 10 * valD ((by_ t).take i) + ((by_ t)[i].toNat - 48) := by
        rw [List.take_succ_eq_append_getElem hb, valD_snoc]
      have hle := valD_take (by_ t) (i + 1)
      have hbt := bt_at hlt
      have ih' := ih (i + 1) (by omega) (by omega)
      rw [ht1] at ih' hle
      generalize (by_ t)[i] = c at hd ht1 hle hbt ih'
      obtain ⟨d1, d2⟩ := hd
      generalize valD ((by_ t).take i) = a at hle ih' ⊢
      have k1 : ¬ (c.toNat : Int) < 48 := by omega
      have k2 : ¬ 57 < (c.toNat : Int) := by omega
      have k3 : IntKind.wrap .u8 ((c.toNat : Int) - 48) = ((c.toNat - 48 : Nat) : Int) := by rw [wrap8]; omega
      have k4 : IntKind.wrap .i64 ((c.toNat - 48 : Nat) : Int) = ((c.toNat - 48 : Nat) : Int) := w64 (by omega) (by omega)
      have k5 : IntKind.wrap .i64 (10 * -(a : Int)) = 10 * -(a : Int) := w64 (by omega) (by omega)
      have k6 : IntKind.wrap .i64 (10 * -(a : Int) - ((c.toNat - 48 : Nat) : Int)) = -((10 * a + (c.toNat - 48) : Nat) : Int) := by rw [w64 (by omega) (by omega)]; omega
      have k7 : ((i + 1 : Nat) : Int) = (i : Int) + 1 := by omega
      rw [k7] at ih'
      have h0 : (0 : Int) ≤ (i : Int) := by omega
      have hlt' : (i : Int) < (t.size : Int) := by omega
      simp only [impl_integer.step, hlt', hbt, h0, k1, k2, k3, k4, k5, k6, wi hlt (by omega), ih', decide_true, decide_false, cond_true, cond_false]
    · obtain rfl : i = t.size := by omega
      rw [List.take_of_length_le (by rw [by_len]; exact Nat.le_refl _), hval]
      exact hfin _

theorem integer_body {S : Int → Option (ByteArray × Unit)} {S1 : ByteArray × ByteArray → Option (ByteArray × Unit)} (s : ByteArray) {n : Int} (hn : in64 n) (hs : by_ s = decL n)
    (hS : ∃ y, S n = some y ∧ by_ y.1 = decL n) (h1 : S1 (s, bs [45]) = some (cut s (bs [45]), ())) :
    impl_integer.body S S1 (go (impl_integer.step S S1) 20) s = some ((n, true), ()) := by
  obtain ⟨y, hy, ey⟩ := hS
  obtain rfl : y.1 = s := by_inj (ey.trans hs.symm)
  generalize hm : n.natAbs = m at *
  have hmle : m ≤ 9223372036854775808 := by omega
  have hlen : (decN m).length ≤ 19 := decN_len (show m < 10 ^ 19 by omega) (by omega)
  have hcut : by_ (cut y.1 (bs [45])) = decN m := by
    rw [by_cut]
    unfold pre
    rw [hs]
    unfold decL
    split
    · have : (by_ (bs [45])).isPrefixOf (45 :: decN n.natAbs) = true := by
        show [(45 : UInt8)].isPrefixOf (45 :: decN n.natAbs) = true
        simp [List.isPrefixOf]
      rw [if_pos this, hm]
      rfl
    · have : ¬ (by_ (bs [45])).isPrefixOf (decN n.natAbs) = true := by
        rw [hm]
        intro h
        rcases hd : decN m with _ | ⟨c, l⟩
        · exact decN_ne m hd
        · rw [hd] at h
          have h : [(45 : UInt8)].isPrefixOf (c :: l) = true := h
          simp only [List.isPrefixOf, Bool.and_true] at h
          have hc := decN_dig m c (by rw [hd]; simp)
          obtain rfl := eq_of_beq h
          exact absurd hc.1 (by decide)
      rw [if_neg this, hm]
  generalize ht : cut y.1 (bs [45]) = t at *
  have hsz : t.size ≤ 19 := by rw [← by_len, hcut]; exact hlen
  have hne : seq_ t (bs []) = false := by
    rcases hd : decN m with _ | ⟨c, l⟩
    · exact absurd hd (decN_ne m)
    · exact ne_empty (hcut.trans hd)
  have hlen2 : y.1.size = if n < 0 then t.size + 1 else t.size := by
    rw [← by_len, hs, ← by_len t, hcut]
    unfold decL
    rw [hm]
    split <;> simp
  have hloop := integer_loop (S := S) (S1 := S1) y.1 t m hmle hcut (y := ((n, true), ())) (fun rec => by
    have hlt : ¬ (t.size : Int) < (t.size : Int) := by omega
    by_cases hneg : n < 0
    · have e1 : ((t.size : Int) == (y.1.size : Int)) = false := by
        rw [if_pos hneg] at hlen2
        rw [beq_eq_false_iff_ne]; omega
      have e2 : -(m : Int) = n := by omega
      simp only [impl_integer.step, hlt, decide_false, cond_false, e1, e2, hy, Option.bind_some, seq_eq, decide_true]
    · have e1 : ((t.size : Int) == (y.1.size : Int)) = true := by
        rw [if_neg hneg] at hlen2
        rw [hlen2]; simp
      have e2 : IntKind.wrap .i64 (0 - -(m : Int)) = n := by rw [w64 (by omega) (by omega)]; omega
      simp only [impl_integer.step, hlt, decide_false, cond_false, cond_true, e1, e2, hy, Option.bind_some, seq_eq, decide_true]) hsz 20 0 (by omega) (by omega)
  have h19 : ¬ (19 : Int) < (t.size : Int) := by omega
  have e0 : (-(valD ((by_ t).take 0) : Int)) = 0 := rfl
  rw [e0] at hloop
  simp only [impl_integer.body, h1, Option.bind_some, hne, h19, decide_false, cond_false]
  exact hloop
theorem has_integer : Has Tryd.prog 48 sg_impl_integer (fun s => ∃ n, in64 n ∧ by_ s = decL n) (fun s y => ∀ n, in64 n → by_ s = decL n → y = ((n, true), ())) := by
  obtain ⟨S, hc, hS⟩ := has_decimal
  obtain ⟨S1, hc1, hS1⟩ := has_TrimPrefix
  refine Has.of_go (impl_integer.con S S1 hc hc1) fun s ⟨n, hn, hs⟩ => ⟨20, ((n, true), ()), integer_body s hn hs (hS n hn) (hS1.eq trivial), fun n' hn' hs' => ?_⟩
  have h1 := integer_body s hn hs (hS n hn) (hS1.eq trivial)
  have h2 := integer_body s hn' hs' (hS n' hn') (hS1.eq trivial)
  exact Option.some.inj (h1.symm.trans h2)
end Go.Proofs.YtgbfelpdlekbkaaDoor
end

/- Plain facts for the parser. -/
section
namespace Go.Lin
def Tail (r : List UInt8) : Prop := r = [] ∨ ∃ c l, r = c :: l ∧ (c = 44 ∨ c = 93 ∨ c = 125)
theorem pre1 {s : ByteArray} {c' : UInt8} {l : List UInt8} (h : by_ s = c' :: l) (c : UInt8) : pre s ⟨#[c]⟩ = (c == c') := by
  unfold pre
  rw [h]
  show [c].isPrefixOf (c' :: l) = _
  simp [List.isPrefixOf]
theorem pre1_nil {s : ByteArray} (h : by_ s = []) (c : UInt8) : pre s ⟨#[c]⟩ = false := by
  unfold pre
  rw [h]
  rfl
theorem cut1 {s : ByteArray} {c : UInt8} {l : List UInt8} (h : by_ s = c :: l) : by_ (cut s ⟨#[c]⟩) = l := by
  rw [by_cut, pre1 h, if_pos (by simp), h]
  rfl
theorem cut1_no {s : ByteArray} {c : UInt8} (h : pre s ⟨#[c]⟩ = false) : cut s ⟨#[c]⟩ = s := by
  unfold cut
  rw [h]
  rfl
theorem shape_eq1 {v : GVal} (h : shapeV v = true) (hk : v.kind = 1) : v = ⟨1, v.text, 0, [], []⟩ ∧ v.text.size ≤ 100 ∧ (by_ v.text).all (inR 32 126) = true := by
  simp only [shapeV, hk] at h
  simp only [beq_self_eq_true, cond_true, Bool.and_eq_true, textOk, decide_eq_true_eq, beq_iff_eq] at h
  obtain ⟨⟨h1, h2⟩, h3, h4, h5⟩ := h
  refine ⟨?_, h2, h1⟩
  obtain ⟨k, t, n, ks, cs⟩ := v
  have e1 : ks = [] := List.length_eq_zero_iff.1 (by simpa using h4)
  have e2 : cs = [] := List.length_eq_zero_iff.1 (by simpa using h5)
  simp only at hk h3
  rw [hk, h3, e1, e2]
theorem shape_eq2 {v : GVal} (h : shapeV v = true) (hk : v.kind = 2) : v = ⟨2, bs [], v.num, [], []⟩ := by
  simp only [shapeV, hk] at h
  simp only [show ((2 : Int) == 1) = false from rfl, beq_self_eq_true, cond_true, cond_false, Bool.and_eq_true, beq_iff_eq, seq_eq, decide_eq_true_eq] at h
  obtain ⟨h1, h4, h5⟩ := h
  obtain ⟨k, t, n, ks, cs⟩ := v
  have e1 : ks = [] := List.length_eq_zero_iff.1 (by simpa using h4)
  have e2 : cs = [] := List.length_eq_zero_iff.1 (by simpa using h5)
  simp only at hk h1
  rw [hk, h1, e1, e2]
theorem shape_eq3 {v : GVal} (h : shapeV v = true) (hk : v.kind = 3) : v = ⟨3, bs [], v.num, [], []⟩ ∧ (v.num = 0 ∨ v.num = 1) := by
  simp only [shapeV, hk] at h
  simp only [show ((3 : Int) == 1) = false from rfl, show ((3 : Int) == 2) = false from rfl, beq_self_eq_true, cond_true, cond_false, Bool.and_eq_true, beq_iff_eq, seq_eq, decide_eq_true_eq] at h
  obtain ⟨h1, ⟨h2, h3⟩, h4, h5⟩ := h
  obtain ⟨k, t, n, ks, cs⟩ := v
  have e1 : ks = [] := List.length_eq_zero_iff.1 (by simpa using h4)
  have e2 : cs = [] := List.length_eq_zero_iff.1 (by simpa using h5)
  simp only at hk h1 h2 h3
  refine ⟨by rw [hk, h1, e1, e2], ?_⟩
  show n = 0 ∨ n = 1
  omega
theorem shape_eq4 {v : GVal} (h : shapeV v = true) (hk : v.kind = 4) : v = ⟨4, bs [], 0, [], v.kids⟩ := by
  simp only [shapeV, hk] at h
  simp only [show ((4 : Int) == 1) = false from rfl, show ((4 : Int) == 2) = false from rfl, show ((4 : Int) == 3) = false from rfl, beq_self_eq_true, cond_true, cond_false, Bool.and_eq_true, beq_iff_eq, seq_eq, decide_eq_true_eq] at h
  obtain ⟨h1, h2, h4⟩ := h
  obtain ⟨k, t, n, ks, cs⟩ := v
  have e1 : ks = [] := List.length_eq_zero_iff.1 (by simpa using h4)
  simp only at hk h1 h2
  rw [hk, h1, h2, e1]
theorem shape_eq5 {v : GVal} (h : shapeV v = true) (hk : v.kind = 5) : v = ⟨5, bs [], 0, v.keys, v.kids⟩ ∧ keysOk v.keys = true ∧ v.keys.length = v.kids.length := by
  simp only [shapeV, hk] at h
  simp only [show ((5 : Int) == 1) = false from rfl, show ((5 : Int) == 2) = false from rfl, show ((5 : Int) == 3) = false from rfl, show ((5 : Int) == 4) = false from rfl, beq_self_eq_true, cond_true, cond_false, Bool.and_eq_true, beq_iff_eq, seq_eq, decide_eq_true_eq] at h
  obtain ⟨⟨h1, h2⟩, h3, h4⟩ := h
  obtain ⟨k, t, n, ks, cs⟩ := v
  simp only at hk h3 h4
  refine ⟨by rw [hk, h3, h4], h1, h2⟩

theorem join_two (x y : List UInt8) (l : List (List UInt8)) : Lib.join (x :: y :: l) [44] = x ++ 44 :: Lib.join (y :: l) [44] := by
  rw [Lib.join_cons, Lib.join_cons]
  unfold Lib.joinTail
  simp

/-- The first byte of a value's text. -/
theorem txt_head {d : Nat} {v : GVal} (h : 0 < vsize d v) : ∃ c l, txt d v = c :: l ∧ c ≠ 44 ∧ c ≠ 93 ∧ c ≠ 125 := by
  cases d with
  | zero => simp [vsize] at h
  | succ d =>
    obtain ⟨hs, _⟩ := vsize_pos h
    unfold txt
    split
    · exact ⟨34, _, rfl, by decide, by decide, by decide⟩
    · split
      · unfold decL
        split
        · exact ⟨45, _, rfl, by decide, by decide, by decide⟩
        · rcases hd : decN v.num.natAbs with _ | ⟨c, l⟩
          · exact absurd hd (decN_ne _)
          · have := decN_dig v.num.natAbs c (by rw [hd]; simp)
            refine ⟨c, l, rfl, ?_, ?_, ?_⟩ <;> (rintro rfl; exact absurd this (by unfold isDig; decide))
      · split
        · split
          · exact ⟨116, _, rfl, by decide, by decide, by decide⟩
          · exact ⟨102, _, rfl, by decide, by decide, by decide⟩
        · split
          · exact ⟨123, _, rfl, by decide, by decide, by decide⟩
          · exact ⟨91, _, rfl, by decide, by decide, by decide⟩
theorem isNameC_ne {c : UInt8} (h : isNameC c = true) : c ≠ 58 ∧ c ≠ 125 ∧ c.toNat < 128 := by
  have h : (97 ≤ c.toNat ∧ c.toNat ≤ 122 ∨ 48 ≤ c.toNat ∧ c.toNat ≤ 57) ∨ c.toNat = 45 := by
    simpa [isNameC, inR] using h
  refine ⟨?_, ?_, by omega⟩
  · rintro rfl
    have : (58 : UInt8).toNat = 58 := rfl
    omega
  · rintro rfl
    have : (125 : UInt8).toNat = 125 := rfl
    omega
theorem name_all {s : ByteArray} (h : nameOk s = true) : ∀ c ∈ by_ s, isNameC c = true := by
  simp only [nameOk, Bool.and_eq_true, List.all_eq_true] at h
  exact h.1
theorem name_cons {s : ByteArray} (h : nameOk s = true) : ∃ c l, by_ s = c :: l ∧ c ≠ 125 := by
  have hl : 1 ≤ s.size := by
    simp only [nameOk, nameEnds, Bool.and_eq_true, decide_eq_true_eq] at h
    omega
  rcases hs : by_ s with _ | ⟨c, l⟩
  · rw [← by_len, hs] at hl
    simp at hl
  · exact ⟨c, l, rfl, (isNameC_ne (name_all h c (by rw [hs]; simp))).2.1⟩
theorem takeWhile_to {p : UInt8 → Bool} {a : List UInt8} {c : UInt8} {l : List UInt8} (ha : ∀ x ∈ a, p x = true) (hc : p c = false) : (a ++ c :: l).takeWhile p = a ∧ (a ++ c :: l).dropWhile p = c :: l := by
  induction a with
  | nil => simp [hc]
  | cons x a ih =>
    obtain ⟨h1, h2⟩ := ih fun y hy => ha y (by simp [hy])
    simp [ha x (by simp), h1, h2]
theorem takeWhile_all {p : UInt8 → Bool} {a : List UInt8} (ha : ∀ x ∈ a, p x = true) : a.takeWhile p = a ∧ a.dropWhile p = [] := by
  induction a with
  | nil => simp
  | cons x a ih =>
    obtain ⟨h1, h2⟩ := ih fun y hy => ha y (by simp [hy])
    simp [ha x (by simp), h1, h2]
theorem takeWhile_tail {p : UInt8 → Bool} {a r : List UInt8} (ha : ∀ x ∈ a, p x = true) (hr : Tail r) (h1 : p 44 = false) (h2 : p 93 = false) (h3 : p 125 = false) : (a ++ r).takeWhile p = a ∧ (a ++ r).dropWhile p = r := by
  rcases hr with rfl | ⟨c, l, rfl, rfl | rfl | rfl⟩
  · rw [List.append_nil]
    exact takeWhile_all ha
  all_goals exact takeWhile_to ha ‹_›
end Go.Lin
end

/- The parser reads what was written. -/
section
namespace Go.Proofs.YtgbfelpdlekbkaaDoor
open Go Go.Proofs Go.Lin Go.RowKit

abbrev ValP (j : Nat) (s : ByteArray) (v : GVal) (r : List UInt8) : Prop := by_ s = txt j v ++ r ∧ 0 < vsize j v ∧ Fine v ∧ Tail r ∧ ascii s ∧ s.size < 4294967281
abbrev KidP (j : Nat) (s : ByteArray) (kind : Int) (e : ByteArray) (v : GVal) (r : List UInt8) : Prop :=
  v.kind = kind ∧ (kind = 4 ∧ e = ⟨#[93]⟩ ∨ kind = 5 ∧ e = ⟨#[125]⟩) ∧ 0 < vsize (j + 1) v ∧ Fine v ∧ by_ s = Lib.join (rest (kind == 5) j v.keys v.kids) [44] ++ (by_ e ++ r) ∧ ascii s ∧ s.size < 4294967281

theorem ascii_sub {s t : ByteArray} {a b : List UInt8} (h : ascii s) (hs : by_ s = a ++ b) (ht : by_ t = b) : ascii t := fun c hc => h c (by rw [hs, ← ht]; exact List.mem_append_right _ hc)
theorem size_sub {s t : ByteArray} {a b : List UInt8} (h : s.size < 4294967281) (hs : by_ s = a ++ b) (ht : by_ t = b) : t.size < 4294967281 := by
  rw [← by_len, ht]
  rw [← by_len, hs, List.length_append] at h
  omega

section
variable {ST : (ByteArray × Bool) × ByteArray → Option (Bool × (ByteArray × Bool))} (hT : ∀ x, ST x = some (pre x.1.1 x.2, (cut x.1.1 x.2, x.1.2)))
include hT

theorem value_body {S1 : ByteArray × Bool → Option (ByteArray × (ByteArray × Bool))} {SK : (ByteArray × Bool) × Int × ByteArray × Int → Option (GVal × (ByteArray × Bool))} {SL : (ByteArray × Bool) × ByteArray → Option (ByteArray × (ByteArray × Bool))} {SI : ByteArray → Option ((Int × Bool) × Unit)}
    {j : Nat} {s : ByteArray} {v : GVal} {r : List UInt8} (h : ValP (j + 1) s v r)
    (h1 : ∀ s t r, t.length ≤ 100 → by_ s = esc t ++ 34 :: r → ∃ y, S1 (s, true) = some y ∧ by_ y.1 = t ∧ by_ y.2.1 = r ∧ y.2.2 = true)
    (hK : ∀ s kind e, KidP j s kind e v r → ∃ y, SK ((s, true), kind, e, ((j + 1 : Nat) : Int)) = some y ∧ y.1 = v ∧ by_ y.2.1 = r ∧ y.2.2 = true)
    (hL : ∀ s, s.size < 4294967281 → ascii s → ∃ y, SL ((s, true), bs [44, 93, 125]) = some y ∧ by_ y.1 = tillA s (bs [44, 93, 125]) ∧ by_ y.2.1 = tillB s (bs [44, 93, 125]) ∧ y.2.2 = true)
    (hI : ∀ s n, in64 n → by_ s = decL n → SI s = some ((n, true), ())) :
    ∃ y, impl_parser_value.body ST S1 SK SL SI s true ((j + 1 : Nat) : Int) = some y ∧ y.1 = v ∧ by_ y.2.1 = r ∧ y.2.2 = true := by
  obtain ⟨hs, hsz, hv, hr, ha, hl⟩ := h
  obtain ⟨hsh, _, hkz, hkl⟩ := vsize_pos hsz
  have hne : (((j + 1 : Nat) : Int) == 0) = false := by rw [beq_eq_false_iff_ne]; omega
  have b34 : bs [34] = ⟨#[34]⟩ := rfl
  have b91 : bs [91] = ⟨#[91]⟩ := rfl
  have b123 : bs [123] = ⟨#[123]⟩ := rfl
  simp only [impl_parser_value.body, hne, cond_false, hT, Option.bind_some, b34, b91, b123]
  rcases shape_kind hsh with hk | hk | hk | hk | hk
  · -- a text
    obtain ⟨he, ht, _⟩ := shape_eq1 hsh hk
    have hs : by_ s = 34 :: (esc (by_ v.text) ++ 34 :: r) := by
      rw [hs]; unfold txt; rw [if_pos hk]; simp [quotedL]
    obtain ⟨y, hy, e1, e2, e3⟩ := h1 (cut s ⟨#[34]⟩) (by_ v.text) r (by rw [by_len]; exact ht) (cut1 hs)
    refine ⟨(GVal.mk 1 y.1 0 [] [], y.2), ?_, ?_, e2, e3⟩
    · rw [pre1 hs]
      simp only [beq_self_eq_true, cond_true, hy, Option.bind_some]
    · show GVal.mk 1 y.1 0 [] [] = v
      rw [he, by_inj e1]
  · -- a number
    have he := shape_eq2 hsh hk
    have hs : by_ s = decL v.num ++ r := by
      rw [hs]; unfold txt; rw [if_neg (by omega), if_pos hk]
    have hd : ∀ c ∈ decL v.num, isDig c ∨ c = 45 := by
      intro c hc
      unfold decL at hc
      split at hc
      · rcases List.mem_cons.1 hc with rfl | hc
        · exact .inr rfl
        · exact .inl (decN_dig _ c hc)
      · exact .inl (decN_dig _ c hc)
    have hd' : ∀ c, isDig c ∨ c = 45 → c ≠ 34 ∧ c ≠ 91 ∧ c ≠ 123 ∧ c ≠ 116 ∧ c ≠ 102 ∧ c ≠ 44 ∧ c ≠ 93 ∧ c ≠ 125 := by
      rintro c (⟨a1, a2⟩ | rfl)
      · refine ⟨?_, ?_, ?_, ?_, ?_, ?_, ?_, ?_⟩ <;> (rintro rfl; revert a1 a2; decide)
      · decide
    obtain ⟨c, l, hcl⟩ : ∃ c l, decL v.num = c :: l := by
      unfold decL
      split
      · exact ⟨_, _, rfl⟩
      · rcases hd : decN v.num.natAbs with _ | ⟨c, l⟩
        · exact absurd hd (decN_ne _)
        · exact ⟨c, l, rfl⟩
    obtain ⟨n1, n2, n3, n4, n5, _⟩ := hd' c (hd c (by rw [hcl]; simp))
    have hs' : by_ s = c :: (l ++ r) := by rw [hs, hcl]; rfl
    have p1 : pre s ⟨#[34]⟩ = false := by rw [pre1 hs']; simpa using fun h => n1 h.symm
    have p2 : pre s ⟨#[91]⟩ = false := by rw [pre1 hs']; simpa using fun h => n2 h.symm
    have p3 : pre s ⟨#[123]⟩ = false := by rw [pre1 hs']; simpa using fun h => n3 h.symm
    obtain ⟨y, hy, e1, e2, e3⟩ := hL s hl ha
    have htw := takeWhile_tail (p := fun b => !(by_ (bs [44, 93, 125])).contains b) (a := decL v.num) (r := r) (fun c hc => by
      obtain ⟨_, _, _, _, _, n6, n7, n8⟩ := hd' c (hd c hc)
      show (!([44, 93, 125] : List UInt8).contains c) = true
      simp [n6, n7, n8]) hr rfl rfl rfl
    have e1 : by_ y.1 = decL v.num := by rw [e1]; unfold tillA; rw [hs]; exact htw.1
    have e2 : by_ y.2.1 = r := by rw [e2]; unfold tillB; rw [hs]; exact htw.2
    have q1 : seq_ y.1 (bs [116, 114, 117, 101]) = false := by
      rw [seq_eq]; apply decide_eq_false; intro h
      rw [h, hcl] at e1
      have e1 : [116, 114, 117, 101] = c :: l := e1
      injection e1 with e _
      exact n4 e.symm
    have q2 : seq_ y.1 (bs [102, 97, 108, 115, 101]) = false := by
      rw [seq_eq]; apply decide_eq_false; intro h
      rw [h, hcl] at e1
      have e1 : [102, 97, 108, 115, 101] = c :: l := e1
      injection e1 with e _
      exact n5 e.symm
    refine ⟨(GVal.mk 2 (bs []) v.num [] [], (y.2.1, true)), ?_, he.symm, e2, rfl⟩
    simp only [p1, cut1_no p1, p2, cut1_no p2, p3, cut1_no p3, cond_false, hy, Option.bind_some, q1, q2, hI y.1 v.num hv.parts.2.2.2.1 e1, e3, cond_true]
  · -- true or false
    obtain ⟨he, hn⟩ := shape_eq3 hsh hk
    have key : ∀ (w : List UInt8), (w = trueL ∨ w = falseL) → by_ s = w ++ r →
        ∃ y, SL ((s, true), bs [44, 93, 125]) = some y ∧ by_ y.1 = w ∧ by_ y.2.1 = r ∧ y.2.2 = true ∧ pre s ⟨#[34]⟩ = false ∧ pre s ⟨#[91]⟩ = false ∧ pre s ⟨#[123]⟩ = false := by
      intro w hw hs
      obtain ⟨y, hy, e1, e2, e3⟩ := hL s hl ha
      have htw := takeWhile_tail (p := fun b => !(by_ (bs [44, 93, 125])).contains b) (a := w) (r := r) (fun c hc => by
        show (!([44, 93, 125] : List UInt8).contains c) = true
        rcases hw with rfl | rfl
        · revert c; decide
        · revert c; decide) hr rfl rfl rfl
      refine ⟨y, hy, by rw [e1]; unfold tillA; rw [hs]; exact htw.1, by rw [e2]; unfold tillB; rw [hs]; exact htw.2, e3, ?_⟩
      rcases hw with rfl | rfl
      · have hs' : by_ s = 116 :: ([114, 117, 101] ++ r) := hs
        exact ⟨pre1 hs' 34, pre1 hs' 91, pre1 hs' 123⟩
      · have hs' : by_ s = 102 :: ([97, 108, 115, 101] ++ r) := hs
        exact ⟨pre1 hs' 34, pre1 hs' 91, pre1 hs' 123⟩
    rcases Decidable.em (v.num = 1) with h1' | h1'
    · obtain ⟨y, hy, e1, e2, e3, p1, p2, p3⟩ := key trueL (.inl rfl) (by rw [hs]; unfold txt; rw [if_neg (by omega), if_neg (by omega), if_pos hk, if_pos h1'])
      have q1 : seq_ y.1 (bs [116, 114, 117, 101]) = true := by
        rw [seq_eq]; exact decide_eq_true (by_inj e1)
      refine ⟨(GVal.mk 3 (bs []) 1 [] [], (y.2.1, y.2.2)), ?_, by rw [he, h1'], e2, e3⟩
      simp only [p1, cut1_no p1, p2, cut1_no p2, p3, cut1_no p3, cond_false, hy, Option.bind_some, q1, cond_true]
    · obtain ⟨y, hy, e1, e2, e3, p1, p2, p3⟩ := key falseL (.inr rfl) (by rw [hs]; unfold txt; rw [if_neg (by omega), if_neg (by omega), if_pos hk, if_neg h1'])
      have q1 : seq_ y.1 (bs [116, 114, 117, 101]) = false := by
        rw [seq_eq]; apply decide_eq_false; intro h
        rw [h] at e1
        exact absurd e1 (by decide)
      have q2 : seq_ y.1 (bs [102, 97, 108, 115, 101]) = true := by
        rw [seq_eq]; exact decide_eq_true (by_inj e1)
      have h0 : v.num = 0 := by omega
      refine ⟨(GVal.mk 3 (bs []) 0 [] [], (y.2.1, y.2.2)), ?_, by rw [he, h0], e2, e3⟩
      simp only [p1, cut1_no p1, p2, cut1_no p2, p3, cut1_no p3, cond_false, hy, Option.bind_some, q1, q2, cond_true]
  · -- a list
    have hs : by_ s = 91 :: (Lib.join (rest false j v.keys v.kids) [44] ++ (by_ ⟨#[93]⟩ ++ r)) := by
      rw [hs]; unfold txt; rw [if_neg (by omega), if_neg (by omega), if_neg (by omega), if_neg (by omega)]
      simp [rest]
      rfl
    have p1 : pre s ⟨#[34]⟩ = false := pre1 hs 34
    have p2 : pre s ⟨#[91]⟩ = true := pre1 hs 91
    obtain ⟨y, hy, e1, e2, e3⟩ := hK (cut s ⟨#[91]⟩) 4 ⟨#[93]⟩ ⟨hk, .inl ⟨rfl, rfl⟩, hsz, hv, cut1 hs, ascii_sub (a := [91]) ha hs (cut1 hs), size_sub (a := [91]) hl hs (cut1 hs)⟩
    refine ⟨(y.1, (y.2.1, y.2.2)), ?_, e1, e2, e3⟩
    have hy : SK ((cut s ⟨#[91]⟩, true), 4, bs [93], ((j + 1 : Nat) : Int)) = some y := hy
    simp only [p1, cut1_no p1, p2, cond_false, cond_true, hy, Option.bind_some, re_eq]
  · -- a map
    have hs : by_ s = 123 :: (Lib.join (rest true j v.keys v.kids) [44] ++ (by_ ⟨#[125]⟩ ++ r)) := by
      rw [hs]; unfold txt; rw [if_neg (by omega), if_neg (by omega), if_neg (by omega), if_pos hk]
      simp [rest]
      rfl
    have p1 : pre s ⟨#[34]⟩ = false := pre1 hs 34
    have p2 : pre s ⟨#[91]⟩ = false := pre1 hs 91
    have p3 : pre s ⟨#[123]⟩ = true := pre1 hs 123
    obtain ⟨y, hy, e1, e2, e3⟩ := hK (cut s ⟨#[123]⟩) 5 ⟨#[125]⟩ ⟨hk, .inr ⟨rfl, rfl⟩, hsz, hv, cut1 hs, ascii_sub (a := [123]) ha hs (cut1 hs), size_sub (a := [123]) hl hs (cut1 hs)⟩
    refine ⟨(y.1, (y.2.1, y.2.2)), ?_, e1, e2, e3⟩
    have hy : SK ((cut s ⟨#[123]⟩, true), 5, bs [125], ((j + 1 : Nat) : Int)) = some y := hy
    simp only [p1, cut1_no p1, p2, cut1_no p2, p3, cond_false, cond_true, hy, Option.bind_some, re_eq]

theorem kids_loop {SV : (ByteArray × Bool) × Int → Option (GVal × (ByteArray × Bool))} {SL : (ByteArray × Bool) × ByteArray → Option (ByteArray × (ByteArray × Bool))} {SN : (ByteArray × Bool) × ByteArray → Option (Unit × (ByteArray × Bool))}
    (hN : ∀ x, SN x = some ((), (cut x.1.1 x.2, x.1.2 && pre x.1.1 x.2)))
    (hL : ∀ s, s.size < 4294967281 → ∃ y, SL ((s, true), bs [58]) = some y ∧ by_ y.1 = tillA s (bs [58]) ∧ by_ y.2.1 = tillB s (bs [58]) ∧ y.2.2 = true)
    {j : Nat} (hj : j ≤ 100) (keys : List ByteArray) (kids : List GVal) (r : List UInt8) (kind : Int) (c : UInt8) (hc : c = 93 ∨ c = 125)
    (hV : ∀ v ∈ kids, ∀ s r, by_ s = txt j v ++ r → Tail r → ascii s → s.size < 4294967281 → ∃ y, SV ((s, true), (j : Int)) = some y ∧ y.1 = v ∧ by_ y.2.1 = r ∧ y.2.2 = true)
    (hk5 : kind = 5 → keys.length = kids.length ∧ ∀ k ∈ keys, nameOk k = true) (hk4 : ¬ kind = 5 → keys = []) (hl : kids.length ≤ 300) :
    ∀ (n i : Nat) (s : ByteArray), i < kids.length → kids.length - i < n → by_ s = Lib.join (rest (kind == 5) j (keys.drop i) (kids.drop i)) [44] ++ (c :: r) → ascii s → s.size < 4294967281 →
      ∃ y, go (impl_parser_kids.step SV ST SL SN) n (.L0 kind ⟨#[c]⟩ ((j + 1 : Nat) : Int) s true 0 (bs []) 0 kind (bs []) 0 (keys.take i) (kids.take i)) = some y ∧ y.1 = ⟨kind, bs [], 0, keys, kids⟩ ∧ by_ y.2.1 = r ∧ y.2.2 = true := by
  intro n
  induction n with
  | zero => intro i s _ h; omega
  | succ n ih =>
    intro i s hlt hn hs ha hsz
    show ∃ y, impl_parser_kids.step SV ST SL SN (go (impl_parser_kids.step SV ST SL SN) n) _ = _ ∧ _
    have hct : Tail (c :: r) := .inr ⟨c, r, rfl, .inr hc⟩
    have b44 : bs [44] = ⟨#[44]⟩ := rfl
    have b58 : bs [58] = ⟨#[58]⟩ := rfl
    have hw : IntKind.wrap .i64 (((j + 1 : Nat) : Int) - 1) = (j : Int) := by rw [w64 (by omega) (by omega)]; omega
    have hlen : (kids.take i).length = i := by rw [List.length_take]; omega
    have h300 : (((kids.take i).length : Nat) : Int) ≤ 300 := by rw [hlen]; omega
    have cap : ∀ v : GVal, ((kids.take i).length + (v :: []).length) * 80 ≤ 140737488355328 := fun v => by
      rw [hlen]; simp only [List.length_cons, List.length_nil]; omega
    have hkt : kids.take i ++ [kids[i]] = kids.take (i + 1) := List.take_append_getElem hlt
    -- what comes behind the value
    have more : ∀ s' : ByteArray, ascii s' → s'.size < 4294967281 → (by_ s' = txt j kids[i] ++ (if i + 1 < kids.length then 44 :: (Lib.join (rest (kind == 5) j (keys.drop (i + 1)) (kids.drop (i + 1))) [44] ++ (c :: r)) else c :: r)) →
        ∀ keys', (keys' = keys.take (i + 1)) → ∃ y, (SV ((s', true), (j : Int))).bind (fun y7 => bif (decide ((((kids.take i).length) + (List.length (y7.1 :: []))) * 80 ≤ 140737488355328)) then
          (ST ((y7.2.1, y7.2.2), (bs [44]))).bind fun y8 =>
          bif (Bool.not y8.1) then ((SN ((y8.2.1, y8.2.2), ⟨#[c]⟩)).bind fun y9 => some ((GVal.mk kind (bs []) 0 keys' (kids.take i ++ (y7.1 :: []))), (y9.2.1, y9.2.2))) else
          go (impl_parser_kids.step SV ST SL SN) n (.L0 kind ⟨#[c]⟩ ((j + 1 : Nat) : Int) y8.2.1 y8.2.2 0 (bs []) 0 kind (bs []) 0 keys' (kids.take i ++ (y7.1 :: []))) else none) = some y ∧ y.1 = ⟨kind, bs [], 0, keys, kids⟩ ∧ by_ y.2.1 = r ∧ y.2.2 = true := by
      rintro s' ha' hsz' hs' keys' rfl
      by_cases hlast : i + 1 < kids.length
      · rw [if_pos hlast] at hs'
        obtain ⟨y7, hy7, e1, e2, e3⟩ := hV _ (List.getElem_mem hlt) s' _ hs' (.inr ⟨44, _, rfl, .inl rfl⟩) ha' hsz'
        obtain ⟨v7, s7, ok7⟩ := y7
        simp only at e1 e2 e3
        subst e1 e3
        have p8 : pre s7 ⟨#[44]⟩ = true := pre1 e2 44
        obtain ⟨y, hy, f⟩ := ih (i + 1) (cut s7 ⟨#[44]⟩) hlast (by omega) (cut1 e2)
          (ascii_sub (a := txt j kids[i] ++ [44]) ha' (by rw [hs', List.append_assoc]; rfl) (cut1 e2)) (size_sub (a := txt j kids[i] ++ [44]) hsz' (by rw [hs', List.append_assoc]; rfl) (cut1 e2))
        refine ⟨y, ?_, f⟩
        rw [← hy, hy7]
        simp only [Option.bind_some, cap, decide_true, cond_true, hT, b44, p8, Bool.not_true, cond_false, hkt]
      · rw [if_neg hlast] at hs'
        obtain ⟨y7, hy7, e1, e2, e3⟩ := hV _ (List.getElem_mem hlt) s' _ hs' hct ha' hsz'
        obtain ⟨v7, s7, ok7⟩ := y7
        simp only at e1 e2 e3
        subst e1 e3
        have p8 : pre s7 ⟨#[44]⟩ = false := by
          rw [pre1 e2]
          rcases hc with rfl | rfl <;> rfl
        have p9 : pre s7 ⟨#[c]⟩ = true := by rw [pre1 e2]; simp
        have hfull : kids.take (i + 1) = kids := List.take_of_length_le (by omega)
        have hkeys : keys.take (i + 1) = keys := by
          by_cases h5 : kind = 5
          · exact List.take_of_length_le (by have := (hk5 h5).1; omega)
          · rw [hk4 h5]; simp
        refine ⟨(⟨kind, bs [], 0, keys, kids⟩, (cut s7 ⟨#[c]⟩, true)), ?_, rfl, cut1 e2, rfl⟩
        rw [hy7]
        simp only [Option.bind_some, cap, decide_true, cond_true, hT, hN, b44, p8, cut1_no p8, p9, Bool.not_false, Bool.and_self, hkt, hfull, hkeys]
    have hdrop : kids.drop i = kids[i] :: kids.drop (i + 1) := drop_cons hlt
    have hjoin : ∀ (a : List UInt8) (l : List (List UInt8)), Lib.join (a :: l) [44] = a ++ (match l with | [] => [] | _ :: _ => 44 :: Lib.join l [44]) := by
      intro a l
      cases l with
      | nil => rw [Lib.join_one]; simp
      | cons b l => exact join_two a b l
    cases h5 : kind == 5 with
    | true =>
      have hk : kind = 5 := eq_of_beq h5
      obtain ⟨hkl, hkn⟩ := hk5 hk
      have hlt' : i < keys.length := by omega
      have hkey := hkn _ (List.getElem_mem hlt')
      rw [h5, hdrop, drop_cons hlt', rest_cons, if_pos rfl, hjoin] at hs
      obtain ⟨X, hX⟩ : ∃ X, X = txt j kids[i] ++ ((match rest true j (keys.drop (i + 1)) (kids.drop (i + 1)) with | [] => [] | _ :: _ => 44 :: Lib.join (rest true j (keys.drop (i + 1)) (kids.drop (i + 1))) [44]) ++ (c :: r)) := ⟨_, rfl⟩
      have hs : by_ s = by_ keys[i] ++ 58 :: X := by
        rw [hs, hX]; simp
      obtain ⟨y5, hy5, g1, g2, e3⟩ := hL s hsz
      have htw := takeWhile_to (p := fun b => !(by_ (bs [58])).contains b) (a := by_ keys[i]) (c := 58) (l := X) (fun x hx => by
        have := (isNameC_ne (name_all hkey x hx)).1
        show (!([58] : List UInt8).contains x) = true
        simp [this]) rfl
      have e1 : y5.1 = keys[i] := by_inj (by rw [g1]; unfold tillA; rw [hs]; exact htw.1)
      have e2 : by_ y5.2.1 = 58 :: X := by rw [g2]; unfold tillB; rw [hs]; exact htw.2
      clear g1 g2
      rw [b58] at hy5
      obtain ⟨k5, s5, ok5⟩ := y5
      simp only at e1 e2 e3
      subst e1 e3
      have p6 : pre s5 ⟨#[58]⟩ = true := by rw [pre1 e2]; rfl
      have hs6 := cut1 e2
      have hkt' : keys.take i ++ [keys[i]] = keys.take (i + 1) := List.take_append_getElem hlt'
      have hs7 : by_ (cut s5 ⟨#[58]⟩) = txt j kids[i] ++ (if i + 1 < kids.length then 44 :: (Lib.join (rest (kind == 5) j (keys.drop (i + 1)) (kids.drop (i + 1))) [44] ++ (c :: r)) else c :: r) := by
        rw [hs6, h5, hX]
        congr 1
        split
        · rename_i hr
          split
          · rename_i h
            exfalso
            rw [drop_cons (show i + 1 < keys.length by omega), drop_cons h, rest_cons] at hr
            cases hr
          · rfl
        · rename_i x l hr
          split
          · simp
          · rename_i h
            exfalso
            rw [List.drop_of_length_le (show kids.length ≤ i + 1 by omega)] at hr
            have : rest true j (keys.drop (i + 1)) [] = [] := by simp [rest, zipT]
            rw [this] at hr
            cases hr
      have kcap : ((keys.take i).length + (keys[i] :: []).length) * 16 ≤ 140737488355328 := by
        rw [List.length_take]; simp only [List.length_cons, List.length_nil]; omega
      obtain ⟨y, hy, f⟩ := more (cut s5 ⟨#[58]⟩) (ascii_sub (a := by_ keys[i] ++ [58]) ha (by rw [hs, hs6]; simp) rfl) (size_sub (a := by_ keys[i] ++ [58]) hsz (by rw [hs, hs6]; simp) rfl) hs7 _ hkt'
      refine ⟨y, ?_, f⟩
      rw [← hy]
      simp only [impl_parser_kids.step, re_eq, h300, h5, hy5, hN, hw, kcap, b58, p6, Option.bind_some, decide_true, cond_true, Bool.and_self]
    | false =>
      have hk : ¬ kind = 5 := fun h => by rw [h] at h5; cases h5
      have hk0 := hk4 hk
      have hr : ∀ ks, rest false j ks (kids.drop i) = txt j kids[i] :: rest false j ks (kids.drop (i + 1)) := fun ks => by rw [hdrop]; rfl
      rw [h5, hr, hjoin] at hs
      have hs7 : by_ s = txt j kids[i] ++ (if i + 1 < kids.length then 44 :: (Lib.join (rest (kind == 5) j (keys.drop (i + 1)) (kids.drop (i + 1))) [44] ++ (c :: r)) else c :: r) := by
        rw [hs, h5, List.append_assoc]
        have hsame : rest false j (keys.drop i) (kids.drop (i + 1)) = rest false j (keys.drop (i + 1)) (kids.drop (i + 1)) := rfl
        rw [hsame]
        congr 1
        split
        · rename_i hr
          split
          · rename_i h
            exfalso
            rw [drop_cons h] at hr
            cases hr
          · rfl
        · rename_i x l hr
          split
          · simp
          · rename_i h
            exfalso
            rw [List.drop_of_length_le (show kids.length ≤ i + 1 by omega)] at hr
            cases hr
      obtain ⟨y, hy, f⟩ := more s ha hsz hs7 (keys.take i) (by rw [hk0]; simp)
      refine ⟨y, ?_, f⟩
      rw [← hy]
      simp only [impl_parser_kids.step, re_eq, h300, h5, hw, decide_true, cond_true, cond_false]
end
end Go.Proofs.YtgbfelpdlekbkaaDoor
end
