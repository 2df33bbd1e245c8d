/- ParseValue of what was written. -/
import Derived.Test.YtgbfelpdlekbkaaDoorFv3
set_option linter.unusedVariables false
set_option linter.unusedSimpArgs false
section
namespace Go.Lin
theorem esc_ascii {l : List UInt8} (h : l.all (inR 32 126) = true) : ∀ b ∈ esc l, b.toNat < 128 := by
  intro b hb
  unfold esc at hb
  obtain ⟨a, ha, hb⟩ := List.mem_flatMap.1 hb
  have h1 := List.all_eq_true.1 h a ha
  have h2 : 32 ≤ a.toNat ∧ a.toNat ≤ 126 := by simpa [inR] using h1
  split at hb
  · simp only [List.mem_cons, List.not_mem_nil, or_false] at hb
    rcases hb with rfl | rfl
    · decide
    · omega
  · simp only [List.mem_cons, List.not_mem_nil, or_false] at hb
    subst hb
    omega
theorem join_mem {xs : List (List UInt8)} {b : UInt8} (h : b ∈ Lib.join xs [44]) : b = 44 ∨ ∃ x ∈ xs, b ∈ x := by
  cases xs with
  | nil => cases h
  | cons x r =>
    rw [Lib.join_cons] at h
    rcases List.mem_append.1 h with h | h
    · exact .inr ⟨x, by simp, h⟩
    · unfold Lib.joinTail at h
      obtain ⟨y, hy, hb⟩ := List.mem_flatten.1 h
      obtain ⟨z, hz, rfl⟩ := List.mem_map.1 hy
      rcases List.mem_append.1 hb with hb | hb
      · exact .inl (by simpa using hb)
      · exact .inr ⟨z, by simp [hz], hb⟩
theorem zip_mem {ks : List ByteArray} {ts : List (List UInt8)} {x : List UInt8} (h : x ∈ zipT ks ts) : ∃ k ∈ ks, ∃ t ∈ ts, x = by_ k ++ 58 :: t := by
  unfold zipT at h
  induction ks generalizing ts with
  | nil => simp at h
  | cons k ks ih =>
    cases ts with
    | nil => simp at h
    | cons t ts =>
      rw [List.zipWith_cons_cons] at h
      rcases List.mem_cons.1 h with rfl | h
      · exact ⟨k, by simp, t, by simp, rfl⟩
      · obtain ⟨k', hk, t', ht, e⟩ := ih h
        exact ⟨k', by simp [hk], t', by simp [ht], e⟩
theorem txt_ascii {d : Nat} {v : GVal} (h : 0 < vsize d v) : ∀ b ∈ txt d v, b.toNat < 128 := by
  induction d generalizing v with
  | zero => simp [vsize] at h
  | succ d ih =>
    obtain ⟨hs, _, hk, _⟩ := vsize_pos h
    intro b hb
    rcases shape_kind hs with k1 | k2 | k3 | k4 | k5
    · unfold txt at hb
      rw [if_pos k1] at hb
      simp only [quotedL, List.mem_cons, List.mem_append, List.not_mem_nil, or_false] at hb
      rcases hb with rfl | hb | rfl
      · decide
      · exact esc_ascii (shape_eq1 hs k1).2.2 b hb
      · decide
    · unfold txt at hb
      rw [if_neg (by omega), if_pos k2] at hb
      unfold decL at hb
      split at hb
      · rcases List.mem_cons.1 hb with rfl | hb
        · decide
        · have := decN_dig _ b hb
          unfold isDig at this
          omega
      · have := decN_dig _ b hb
        unfold isDig at this
        omega
    · unfold txt at hb
      rw [if_neg (by omega), if_neg (by omega), if_pos k3] at hb
      split at hb
      · revert b; decide
      · revert b; decide
    · unfold txt at hb
      rw [if_neg (by omega), if_neg (by omega), if_neg (by omega), if_neg (by omega)] at hb
      simp only [List.mem_cons, List.mem_append, List.not_mem_nil, or_false] at hb
      rcases hb with rfl | hb | rfl
      · decide
      · rcases join_mem hb with rfl | ⟨x, hx, hb⟩
        · decide
        · obtain ⟨q, hq, rfl⟩ := List.mem_map.1 hx
          exact ih (hk q hq) b hb
      · decide
    · unfold txt at hb
      rw [if_neg (by omega), if_neg (by omega), if_neg (by omega), if_pos k5] at hb
      simp only [List.mem_cons, List.mem_append, List.not_mem_nil, or_false] at hb
      rcases hb with rfl | hb | rfl
      · decide
      · rcases join_mem hb with rfl | ⟨x, hx, hb⟩
        · decide
        · obtain ⟨k, hkk, t, ht, rfl⟩ := zip_mem hx
          obtain ⟨q, hq, rfl⟩ := List.mem_map.1 ht
          rcases List.mem_append.1 hb with hb | hb
          · exact (isNameC_ne (name_all (keysFrom_names (shape_eq5 hs k5).2.1 k hkk) b hb)).2.2
          · rcases List.mem_cons.1 hb with rfl | hb
            · decide
            · exact ih (hk q hq) b hb
      · decide
end Go.Lin
namespace Go.Proofs.YtgbfelpdlekbkaaDoor
open Go Go.Proofs Go.Lin Go.RowKit

theorem kids_body {ST : (ByteArray × Bool) × ByteArray → Option (Bool × (ByteArray × Bool))} (hT : ∀ x, ST x = some (pre x.1.1 x.2, (cut x.1.1 x.2, x.1.2)))
    {SV : (ByteArray × Bool) × Int → Option (GVal × (ByteArray × Bool))} {SL : (ByteArray × Bool) × ByteArray → Option (ByteArray × (ByteArray × Bool))} {SN : (ByteArray × Bool) × ByteArray → Option (Unit × (ByteArray × Bool))}
    (hN : ∀ x, SN x = some ((), (cut x.1.1 x.2, x.1.2 && pre x.1.1 x.2)))
    (hL : ∀ s, s.size < 4294967281 → ∃ y, SL ((s, true), bs [58]) = some y ∧ by_ y.1 = tillA s (bs [58]) ∧ by_ y.2.1 = tillB s (bs [58]) ∧ y.2.2 = true)
    {j : Nat} (hj : j ≤ 100) {v : GVal} {r : List UInt8} {kind : Int} {e s : ByteArray} (h : KidP j s kind e v r)
    (hV : ∀ q ∈ v.kids, ∀ s r, by_ s = txt j q ++ r → Tail r → ascii s → s.size < 4294967281 → ∃ y, SV ((s, true), (j : Int)) = some y ∧ y.1 = q ∧ by_ y.2.1 = r ∧ y.2.2 = true) :
    ∃ y, impl_parser_kids.body SV ST SL SN (go (impl_parser_kids.step SV ST SL SN) 302) s true kind e ((j + 1 : Nat) : Int) = some y ∧ y.1 = v ∧ by_ y.2.1 = r ∧ y.2.2 = true := by
  obtain ⟨hkind, hke, hsz, hv, hs, ha, hl⟩ := h
  obtain ⟨hsh, _, hkz, hkl⟩ := vsize_pos hsz
  obtain ⟨c, hce, hc⟩ : ∃ c : UInt8, e = ⟨#[c]⟩ ∧ (c = 93 ∨ c = 125) := by
    rcases hke with ⟨_, rfl⟩ | ⟨_, rfl⟩
    · exact ⟨93, rfl, .inl rfl⟩
    · exact ⟨125, rfl, .inr rfl⟩
  subst hce
  have hve : v = ⟨kind, bs [], 0, v.keys, v.kids⟩ := by
    rcases hke with ⟨rfl, _⟩ | ⟨rfl, _⟩
    · have := shape_eq4 hsh hkind
      have hk : v.keys = [] := by rw [this]
      rw [hk]; exact this
    · exact (shape_eq5 hsh hkind).1
  have hs : by_ s = Lib.join (rest (kind == 5) j v.keys v.kids) [44] ++ c :: r := hs
  have hk5 : kind = 5 → v.keys.length = v.kids.length ∧ ∀ k ∈ v.keys, nameOk k = true := fun h5 => by
    obtain ⟨_, h6, h7⟩ := shape_eq5 hsh (hkind.trans h5)
    exact ⟨h7, keysFrom_names h6⟩
  have hk4 : ¬ kind = 5 → v.keys = [] := fun h5 => by
    rcases hke with ⟨rfl, _⟩ | ⟨rfl, _⟩
    · rw [shape_eq4 hsh hkind]
    · exact absurd rfl h5
  unfold impl_parser_kids.body
  rw [hT, Option.bind_some]
  rcases Nat.eq_zero_or_pos v.kids.length with h0 | h0
  · have hkids : v.kids = [] := List.length_eq_zero_iff.1 h0
    have hkeys : v.keys = [] := by
      by_cases h5 : kind = 5
      · exact List.length_eq_zero_iff.1 ((hk5 h5).1.trans h0)
      · exact hk4 h5
    have hs : by_ s = c :: r := by
      rw [hs, hkids, hkeys]
      cases kind == 5 <;> rfl
    have p : pre s ⟨#[c]⟩ = true := by rw [pre1 hs]; simp
    refine ⟨(⟨kind, bs [], 0, [], []⟩, (cut s ⟨#[c]⟩, true)), ?_, ?_, cut1 hs, rfl⟩
    · simp only [p, cond_true]
    · rw [hve, hkids, hkeys]
  · have hfirst : ∃ c' l, by_ s = c' :: l ∧ c' ≠ c := by
      rw [hs]
      have hd : v.kids = v.kids[0] :: v.kids.drop 1 := by
        have := drop_cons h0
        simpa using this
      obtain ⟨c1, l1, hc1, n1, n2, n3⟩ := txt_head (hkz v.kids[0] (List.getElem_mem h0))
      by_cases h5 : kind = 5
      · obtain ⟨hkl', hkn⟩ := hk5 h5
        have hk0 : 0 < v.keys.length := by omega
        have hd' : v.keys = v.keys[0] :: v.keys.drop 1 := by
          have := drop_cons hk0
          simpa using this
        obtain ⟨c2, l2, hc2, n4⟩ := name_cons (hkn v.keys[0] (List.getElem_mem hk0))
        have hce : c = 125 := by
          rcases hke with ⟨h4, _⟩ | ⟨_, h⟩
          · omega
          · injection h with h
            injection h with h
            injection h
        rw [hd, hd', rest_cons]
        rw [h5]
        have hm : ∃ m, Lib.join ((by_ v.keys[0] ++ 58 :: txt j v.kids[0]) :: rest (5 == 5) j (v.keys.drop 1) (v.kids.drop 1)) [44] ++ c :: r = c2 :: m := by
          rw [Lib.join_cons, hc2]
          exact ⟨_, rfl⟩
        obtain ⟨m, hm⟩ := hm
        exact ⟨c2, m, hm, by rw [hce]; exact n4⟩
      · have hce : c = 93 := by
          rcases hke with ⟨_, h⟩ | ⟨h, _⟩
          · injection h with h
            injection h with h
            injection h
          · exact absurd h h5
        have hb : (kind == 5) = false := beq_eq_false_iff_ne.2 h5
        rw [hb, hd]
        have hm : ∃ m, Lib.join (txt j v.kids[0] :: rest false j v.keys (v.kids.drop 1)) [44] ++ c :: r = c1 :: m := by
          rw [Lib.join_cons, hc1]
          exact ⟨_, rfl⟩
        obtain ⟨m, hm⟩ := hm
        exact ⟨c1, m, hm, by rw [hce]; exact n2⟩
    obtain ⟨c', l, hcl, hne⟩ := hfirst
    have p : pre s ⟨#[c]⟩ = false := by rw [pre1 hcl]; simpa using fun h => hne h.symm
    obtain ⟨y, hy, e1, e2, e3⟩ := kids_loop hT hN hL hj v.keys v.kids r kind c hc hV hk5 hk4 (by omega) 302 0 s h0 (by omega) (by simpa using hs) ha hl
    refine ⟨y, ?_, e1.trans hve.symm, e2, e3⟩
    simp only [p, cut1_no p, cond_false]
    simpa using hy
end Go.Proofs.YtgbfelpdlekbkaaDoor
end

/- ParseValue, whole. -/
section
namespace Go.Proofs.YtgbfelpdlekbkaaDoor
open Go Go.Proofs Go.Lin Go.RowKit

abbrev QV (x : (ByteArray × Bool) × Int) (y : GVal × (ByteArray × Bool)) : Prop := ∀ (j : Nat) (v : GVal) (r : List UInt8), x.2 = (j : Int) → ValP j x.1.1 v r → y.1 = v ∧ by_ y.2.1 = r ∧ y.2.2 = true
abbrev QK (x : (ByteArray × Bool) × Int × ByteArray × Int) (y : GVal × (ByteArray × Bool)) : Prop := ∀ (j : Nat) (v : GVal) (r : List UInt8), x.2.2.2 = ((j + 1 : Nat) : Int) → KidP j x.1.1 x.2.1 x.2.2.1 v r → y.1 = v ∧ by_ y.2.1 = r ∧ y.2.2 = true

theorem size3 : (bs [44, 93, 125]).size < 4294967281 := by decide
theorem size1 : (bs [58]).size < 4294967281 := by decide
theorem ascii3 : ascii (bs [44, 93, 125]) := by unfold ascii; decide
theorem ascii1 : ascii (bs [58]) := by unfold ascii; decide

theorem has_parser : Has Tryd.prog 22 sg_impl_parser_value (fun x => x.1.2 = true ∧ ∃ j : Nat, x.2 = (j : Int) ∧ j ≤ 100 ∧ ∃ v r, ValP j x.1.1 v r) QV := by
  obtain ⟨ST, hcT, hST⟩ := has_take
  have hT : ∀ x, ST x = some (pre x.1.1 x.2, (cut x.1.1 x.2, x.1.2)) := fun x => hST.eq trivial
  obtain ⟨S1, hc1, hS1⟩ := has_text
  obtain ⟨SL, hcL, hSL⟩ := has_till
  obtain ⟨SI, hcI, hSI⟩ := has_integer
  obtain ⟨SN, hcN, hSN⟩ := has_need
  have hN : ∀ x, SN x = some ((), (cut x.1.1 x.2, x.1.2 && pre x.1.1 x.2)) := fun x => hSN.eq trivial
  have := Has.recN2 (P := Tryd.prog) (g := 22) (g' := 46) (sg := sg_impl_parser_value) (sg' := sg_impl_parser_kids)
    (Pre := fun k x => x.1.2 = true ∧ ∃ j : Nat, k = 2 * j ∧ x.2 = (j : Int) ∧ j ≤ 100 ∧ ∃ v r, ValP j x.1.1 v r)
    (Pre' := fun k x => x.1.2 = true ∧ ∃ j : Nat, k = 2 * j + 1 ∧ x.2.2.2 = ((j + 1 : Nat) : Int) ∧ j ≤ 100 ∧ ∃ v r, KidP j x.1.1 x.2.1 x.2.2.1 v r)
    (Q := QV) (Q' := QK) (fun x ⟨_, j, h, _, _, v, r, hv⟩ => by
      obtain rfl : j = 0 := by omega
      have := hv.2.1
      simp [vsize] at this) (fun x ⟨_, j, h, _⟩ => by omega) ?_ ?_
  · exact this.1.mono (fun x ⟨h1, j, h2, h3, h4⟩ => ⟨2 * j, h1, j, rfl, h2, h3, h4⟩) fun _ _ _ h => h
  · intro k SK hcK hSK
    refine Has.of (sg := sg_impl_parser_value) (S := fun ((s, ok), room) => impl_parser_value.body ST S1 SK SL SI s ok room) (impl_parser_value.con ST S1 SK SL SI hcT hc1 hcK hcL hcI) fun ((s, ok), room) ⟨hok, j, hk, hroom, hj, v, r, hv⟩ => ?_
    obtain rfl : ok = true := hok
    obtain rfl : room = (j : Int) := hroom
    obtain ⟨j, rfl⟩ : ∃ i, j = i + 1 := ⟨j - 1, by omega⟩
    have main : ∀ v r, ValP (j + 1) s v r → ∃ y, impl_parser_value.body ST S1 SK SL SI s true ((j + 1 : Nat) : Int) = some y ∧ y.1 = v ∧ by_ y.2.1 = r ∧ y.2.2 = true := fun v r hv => by
      refine value_body hT hv (fun s t r hl hs => ?_) (fun s kind e hK => ?_) (fun s hl ha => ?_) (fun s n hn hs => ?_)
      · obtain ⟨y, hy, hq⟩ := hS1 (s, true) ⟨rfl, t, r, hl, hs⟩
        exact ⟨y, hy, hq t r hl hs⟩
      · obtain ⟨y, hy, hq⟩ := hSK ((s, true), kind, e, ((j + 1 : Nat) : Int)) ⟨rfl, j, by omega, rfl, by omega, v, r, hK⟩
        exact ⟨y, hy, hq j v r rfl hK⟩
      · exact hSL ((s, true), bs [44, 93, 125]) ⟨hl, size3, ascii3, .inr ha⟩
      · obtain ⟨y, hy, hq⟩ := hSI s ⟨n, hn, hs⟩
        exact hy.trans (congrArg some (hq n hn hs))
    obtain ⟨y, hy, _⟩ := main v r hv
    refine ⟨y, hy, fun j' v' r' hj' hv' => ?_⟩
    obtain rfl : j' = j + 1 := by have : ((j + 1 : Nat) : Int) = (j' : Int) := hj'; omega
    obtain ⟨y', hy', e⟩ := main v' r' hv'
    obtain rfl := Option.some.inj (hy.symm.trans hy')
    exact e
  · intro k SV hcV hSV
    refine Has.of_go (sg := sg_impl_parser_kids) (S := fun n ((s, ok), kind, e, room) => impl_parser_kids.body SV ST SL SN (go (impl_parser_kids.step SV ST SL SN) n) s ok kind e room) (impl_parser_kids.con SV ST SL SN hcV hcT hcL hcN) fun ((s, ok), kind, e, room) ⟨hok, j, hk, hroom, hj, v, r, hv⟩ => ?_
    obtain rfl : ok = true := hok
    obtain rfl : room = ((j + 1 : Nat) : Int) := hroom
    have main : ∀ v r, KidP j s kind e v r → ∃ y, impl_parser_kids.body SV ST SL SN (go (impl_parser_kids.step SV ST SL SN) 302) s true kind e ((j + 1 : Nat) : Int) = some y ∧ y.1 = v ∧ by_ y.2.1 = r ∧ y.2.2 = true := fun v r hv => by
      refine kids_body hT hN (fun s hl => ?_) hj hv (fun q hq s r hs hr ha hl => ?_)
      · exact hSL ((s, true), bs [58]) ⟨hl, size1, ascii1, .inl rfl⟩
      · have hP : ValP j s q r := ⟨hs, (vsize_pos hv.2.2.1).2.2.1 q hq, hv.2.2.2.1.parts.2.2.2.2 q hq, hr, ha, hl⟩
        obtain ⟨y, hy, hq⟩ := hSV ((s, true), (j : Int)) ⟨rfl, j, by omega, rfl, hj, q, r, hP⟩
        exact ⟨y, hy, hq j q r rfl hP⟩
    obtain ⟨y, hy, _⟩ := main v r hv
    refine ⟨302, y, hy, fun j' v' r' hj' hv' => ?_⟩
    obtain rfl : j' = j := by have : ((j + 1 : Nat) : Int) = ((j' + 1 : Nat) : Int) := hj'; omega
    obtain ⟨y', hy', e⟩ := main v' r' hv'
    obtain rfl := Option.some.inj (hy.symm.trans hy')
    exact e

theorem ParseValue_body {S : GVal → Option (Bool × Unit)} {S1 : GVal → Option (ByteArray × Unit)} {SV : (ByteArray × Bool) × Int → Option (GVal × (ByteArray × Bool))} {s : ByteArray} {v : GVal} (hs : by_ s = txt 6 v)
    (h1 : S v = some (true, ())) (h2 : ∃ y, S1 v = some y ∧ by_ y.1 = txt 6 v) (h3 : ∃ y, SV ((s, true), 6) = some y ∧ y.1 = v ∧ by_ y.2.1 = [] ∧ y.2.2 = true) :
    impl_ParseValue.body S S1 SV s = some ((v, true), ()) := by
  obtain ⟨y1, hy1, e1⟩ := h2
  obtain ⟨⟨v', s', ok'⟩, hy2, e2, e3, e4⟩ := h3
  simp only at e2 e3 e4
  subst e2 e4
  have q1 : seq_ s' (bs []) = true := by
    rw [seq_eq]; exact decide_eq_true (by_inj e3)
  have q2 : seq_ y1.1 s = true := by
    rw [seq_eq]; exact decide_eq_true (by_inj (e1.trans hs.symm))
  simp only [impl_ParseValue.body, hy2, Option.bind_some, re_eq, h1, hy1, q1, q2, Bool.not_true, cond_false]
theorem has_ParseValue : Has Tryd.prog 11 sg_impl_ParseValue (fun s => ∃ v, Fine v ∧ 0 < vsize 6 v ∧ by_ s = txt 6 v) (fun s y => ∀ v, Fine v → 0 < vsize 6 v → by_ s = txt 6 v → y = ((v, true), ())) := by
  obtain ⟨S, hc, hS⟩ := has_impl_ValueOk
  obtain ⟨S1, hc1, hS1⟩ := has_written
  obtain ⟨SV, hcV, hSV⟩ := has_parser
  have main : ∀ (s : ByteArray) v, Fine v → 0 < vsize 6 v → by_ s = txt 6 v → impl_ParseValue.body S S1 SV s = some ((v, true), ()) := fun s v hv hz hs => by
    refine ParseValue_body hs ?_ ?_ ?_
    · have := hS.eq hv
      rw [show okV v = true from decide_eq_true hz] at this
      exact this
    · obtain ⟨y, hy, e⟩ := hS1 v ⟨hv, 6, hz⟩
      exact ⟨y, hy, e 6 hz⟩
    · have hlen := txt_len hv hz
      have hle := vsize_le 6 v
      have hP : ValP 6 s v [] := ⟨by simpa using hs, hz, hv, .inl rfl, fun b hb => txt_ascii hz b (by rw [← hs]; exact hb), by rw [← by_len, hs]; omega⟩
      obtain ⟨y, hy, e⟩ := hSV ((s, true), 6) ⟨rfl, 6, rfl, by omega, v, [], hP⟩
      exact ⟨y, hy, e 6 v [] rfl hP⟩
  exact Has.of (impl_ParseValue.con S S1 SV hc hc1 hcV) fun s ⟨v, hv, hz, hs⟩ => ⟨_, main s v hv hz hs, fun v' hv' hz' hs' => Option.some.inj ((main s v hv hz hs).symm.trans (main s v' hv' hz' hs'))⟩
end Go.Proofs.YtgbfelpdlekbkaaDoor
end

/- Draws: numbers, names, labels. -/
section
namespace Go.Lin
abbrev Cu := List Int × (Int × Int)
def Cur (c : Cu) : Prop := c.1.length ≤ 1048576 ∧ 0 ≤ c.2.1 ∧ c.2.1 ≤ (c.1.length : Int)
theorem iand255 (x : Int) : 0 ≤ iand .i64 x 255 ∧ iand .i64 x 255 ≤ 255 := by
  unfold iand
  have h : (BitVec.ofInt IntKind.i64.bits x &&& BitVec.ofInt IntKind.i64.bits 255).toNat ≤ 255 := by
    rw [BitVec.toNat_and]
    exact Nat.le_trans Nat.and_le_right (by decide)
  rw [w64 (by omega) (by omega)]
  omega
theorem in64_wrap (x : Int) : in64 (IntKind.wrap .i64 x) := by
  rw [wrap64]
  constructor <;> split <;> omega
theorem tmod_pos {y n : Int} (hy : 0 ≤ y) (hn : 0 < n) : 0 ≤ Int.tmod y n ∧ Int.tmod y n < n := by
  rw [Int.tmod_eq_emod_of_nonneg hy]
  exact ⟨Int.emod_nonneg _ (by omega), Int.emod_lt_of_pos _ hn⟩
abbrev Lb := List (ByteArray × ByteArray)
def LB (n : Nat) (l : Lb) : Prop := l.length ≤ n ∧ ∀ p ∈ l, p.1.size ≤ 30 ∧ p.2.size ≤ 30
theorem LB.snoc {n : Nat} {l : Lb} (h : LB n l) {p : ByteArray × ByteArray} (hp : p.1.size ≤ 30 ∧ p.2.size ≤ 30) : LB (n + 1) (l ++ [p]) :=
  ⟨by have := h.1; simp; omega, fun q hq => by
    rcases List.mem_append.1 hq with hq | hq
    · exact h.2 q hq
    · rw [List.mem_singleton.1 hq]; exact hp⟩
theorem LB.mono {n m : Nat} {l : Lb} (h : LB n l) (hm : n ≤ m) : LB m l := ⟨Nat.le_trans h.1 hm, h.2⟩
end Go.Lin
namespace Go.Proofs.YtgbfelpdlekbkaaDoor
open Go Go.Proofs Go.Lin Go.RowKit

theorem l1Byte_body (b : List Int) (i h : Int) (hc : Cur (b, (i, h))) : ∃ y, spec_l1Byte.body b i h = some y ∧ Cur y.2 ∧ 0 ≤ y.1 ∧ y.1 ≤ 255 := by
  obtain ⟨h1, h2, h3⟩ := hc
  simp only at h1 h2 h3
  unfold spec_l1Byte.body
  by_cases hlt : i < (b.length : Int)
  · rw [decide_eq_true hlt, cond_true, decide_eq_true h2, cond_true, cond_true]
    refine ⟨_, rfl, ⟨h1, ?_, ?_⟩, (iand255 _).1, (iand255 _).2⟩
    · show 0 ≤ IntKind.wrap .i64 (i + 1)
      rw [w64 (by omega) (by omega)]; omega
    · show IntKind.wrap .i64 (i + 1) ≤ (b.length : Int)
      rw [w64 (by omega) (by omega)]; omega
  · rw [decide_eq_false hlt, cond_false]
    exact ⟨_, rfl, ⟨h1, h2, h3⟩, (iand255 _).1, (iand255 _).2⟩
theorem has_l1Byte : Has Tryd.prog 61 sg_spec_l1Byte Cur (fun _ y => Cur y.2 ∧ 0 ≤ y.1 ∧ y.1 ≤ 255) :=
  Has.of spec_l1Byte.con fun (b, (i, h)) hc => l1Byte_body b i h hc

theorem l1Below_body {S : Cu → Option (Int × Cu)} (hS : ∀ c, Cur c → ∃ y, S c = some y ∧ Cur y.2 ∧ 0 ≤ y.1 ∧ y.1 ≤ 255) (b : List Int) (i h n : Int) (hc : Cur (b, (i, h))) :
    ∃ y, spec_l1Below.body S b i h n = some y ∧ Cur y.2 ∧ 0 ≤ y.1 ∧ (0 < n → y.1 < n) ∧ (n ≤ 0 → y.1 = 0) := by
  unfold spec_l1Below.body
  by_cases h0 : n ≤ 0
  · rw [decide_eq_true h0, cond_true]
    exact ⟨_, rfl, hc, Int.le_refl _, fun h => by omega, fun _ => rfl⟩
  · have hne : (n == 0) = false := by rw [beq_eq_false_iff_ne]; omega
    rw [decide_eq_false h0, cond_false]
    obtain ⟨⟨v, b1, i1, h1⟩, hy, hc1, r1, r2⟩ := hS _ hc
    simp only at r1 r2
    by_cases h1' : n ≤ 256
    · rw [decide_eq_true h1', cond_true, hy, Option.bind_some]
      simp only [hne, Bool.not_false, cond_true]
      have := tmod_pos r1 (show 0 < n by omega)
      exact ⟨_, rfl, hc1, this.1, fun _ => this.2, fun h => by omega⟩
    · rw [decide_eq_false h1', cond_false, hy, Option.bind_some]
      obtain ⟨⟨v2, b2, i2, h2⟩, hy2, hc2, r3, r4⟩ := hS _ hc1
      obtain ⟨⟨v3, b3, i3, h3⟩, hy3, hc3, r5, r6⟩ := hS _ hc2
      simp only at r3 r4 r5 r6 hy2 hy3
      simp only [hy2, hy3, Option.bind_some, hne, Bool.not_false, cond_true]
      have hw : 0 ≤ IntKind.wrap .i64 (IntKind.wrap .i64 (IntKind.wrap .i64 (v * 65536) + IntKind.wrap .i64 (v2 * 256)) + v3) := by
        rw [w64 (x := v * 65536) (by omega) (by omega), w64 (x := v2 * 256) (by omega) (by omega), w64 (x := v * 65536 + v2 * 256) (by omega) (by omega), w64 (by omega) (by omega)]
        omega
      have := tmod_pos hw (show 0 < n by omega)
      exact ⟨_, rfl, hc3, this.1, fun _ => this.2, fun h => by omega⟩
abbrev QB (n : Int) (y : Int × Cu) : Prop := Cur y.2 ∧ 0 ≤ y.1 ∧ (0 < n → y.1 < n) ∧ (n ≤ 0 → y.1 = 0)
theorem has_l1Below : Has Tryd.prog 36 sg_spec_l1Below (fun x => Cur x.1) (fun x y => QB x.2 y) := by
  obtain ⟨S, hc, hS⟩ := has_l1Byte
  exact Has.of (spec_l1Below.con S hc) fun ((b, (i, h)), n) hx => l1Below_body hS b i h n hx

theorem has_l1Once : Has Tryd.prog 34 sg_spec_l1Once (fun x => Cur x.1) (fun _ y => Cur y.2) := by
  obtain ⟨S, hc, hS⟩ := has_l1Below
  have key : ∀ {S : Cu × Int → Option (Int × Cu)}, (∀ x, Cur x.1 → ∃ y, S x = some y ∧ QB x.2 y) → ∀ b i h n, Cur (b, (i, h)) → ∃ y, spec_l1Once.body S b i h n = some y ∧ Cur y.2 := by
    intro S hS b i h n hc
    obtain ⟨⟨v, b1, i1, h1⟩, hy, q⟩ := hS ((b, (i, h)), n) hc
    exact ⟨(v == 0, (b1, (i1, h1))), by simp only [spec_l1Once.body, hy, Option.bind_some], q.1⟩
  exact Has.of (spec_l1Once.con S hc) fun ((b, (i, h)), n) hx => key hS b i h n hx
theorem has_l1Int : Has Tryd.prog 57 sg_spec_l1Int (fun x => Cur x.1 ∧ x.2 ≠ []) (fun x y => Cur y.2 ∧ y.1 ∈ x.2) := by
  obtain ⟨S, hc, hS⟩ := has_l1Below
  have key : ∀ {S : Cu × Int → Option (Int × Cu)}, (∀ x, Cur x.1 → ∃ y, S x = some y ∧ QB x.2 y) → ∀ b i h (l : List Int), Cur (b, (i, h)) → l ≠ [] → ∃ y, spec_l1Int.body S b i h l = some y ∧ Cur y.2 ∧ y.1 ∈ l := by
    intro S hS b i h l hc hl
    have hpos : 0 < l.length := List.length_pos_iff.2 hl
    obtain ⟨⟨v, b1, i1, h1⟩, hy, q1, q2, q3, _⟩ := hS ((b, (i, h)), (l.length : Int)) hc
    simp only at q1 q2 q3
    have q3 := q3 (by omega)
    have hlt : v.toNat < l.length := by omega
    refine ⟨(l.getD v.toNat 0, (b1, (i1, h1))), by simp only [spec_l1Int.body, hy, Option.bind_some, q2, q3, decide_true, cond_true], q1, ?_⟩
    show l.getD v.toNat 0 ∈ l
    rw [getD_at hlt]
    exact List.getElem_mem hlt
  exact Has.of (spec_l1Int.con S hc) fun ((b, (i, h)), l) hx => key hS b i h l hx.1 hx.2
theorem has_l1Str : Has Tryd.prog 56 sg_spec_l1Str (fun x => Cur x.1 ∧ x.2 ≠ []) (fun x y => Cur y.2 ∧ y.1 ∈ x.2) := by
  obtain ⟨S, hc, hS⟩ := has_l1Below
  have key : ∀ {S : Cu × Int → Option (Int × Cu)}, (∀ x, Cur x.1 → ∃ y, S x = some y ∧ QB x.2 y) → ∀ b i h (l : List ByteArray), Cur (b, (i, h)) → l ≠ [] → ∃ y, spec_l1Str.body S b i h l = some y ∧ Cur y.2 ∧ y.1 ∈ l := by
    intro S hS b i h l hc hl
    have hpos : 0 < l.length := List.length_pos_iff.2 hl
    obtain ⟨⟨v, b1, i1, h1⟩, hy, q1, q2, q3, _⟩ := hS ((b, (i, h)), (l.length : Int)) hc
    simp only at q1 q2 q3
    have q3 := q3 (by omega)
    have hlt : v.toNat < l.length := by omega
    refine ⟨(l.getD v.toNat (bs []), (b1, (i1, h1))), by simp only [spec_l1Str.body, hy, Option.bind_some, q2, q3, decide_true, cond_true], q1, ?_⟩
    show l.getD v.toNat (bs []) ∈ l
    rw [getD_at hlt]
    exact List.getElem_mem hlt
  exact Has.of (spec_l1Str.con S hc) fun ((b, (i, h)), l) hx => key hS b i h l hx.1 hx.2

abbrev QS (x : Cu × List ByteArray) (y : ByteArray × Cu) : Prop := Cur y.2 ∧ y.1 ∈ x.2
theorem has_l1Name : Has Tryd.prog 76 sg_spec_l1Name Cur (fun _ y => Cur y.2 ∧ y.1.size ≤ 30) := by
  obtain ⟨S, hc, hS⟩ := has_l1Str
  have key : ∀ {S : Cu × List ByteArray → Option (ByteArray × Cu)}, (∀ x, Cur x.1 ∧ x.2 ≠ [] → ∃ y, S x = some y ∧ QS x y) → ∀ b i h, Cur (b, (i, h)) → ∃ y, spec_l1Name.body S b i h = some y ∧ Cur y.2 ∧ y.1.size ≤ 30 := by
    intro S hS b i h hc
    unfold spec_l1Name.body
    generalize hl : ((bs [97]) :: _ : List ByteArray) = l
    have hsz : ∀ s ∈ l, s.size ≤ 30 := by rw [← hl]; decide
    obtain ⟨⟨v, b1, i1, h1⟩, hy, q1, q2⟩ := hS ((b, (i, h)), l) ⟨hc, by rw [← hl]; simp⟩
    exact ⟨_, by rw [hy, Option.bind_some], q1, hsz _ q2⟩
  exact Has.of (spec_l1Name.con S hc) fun (b, (i, h)) hx => key hS b i h hx
theorem has_l1NameAny : Has Tryd.prog 60 sg_spec_l1NameAny Cur (fun _ y => Cur y.2 ∧ y.1.size ≤ 30) := by
  obtain ⟨S0, hc0, hS0⟩ := has_l1Once
  obtain ⟨S, hc, hS⟩ := has_l1Str
  obtain ⟨S1, hc1, hS1⟩ := has_l1Name
  have key : ∀ {S0 : Cu × Int → Option (Bool × Cu)} {S : Cu × List ByteArray → Option (ByteArray × Cu)} {S1 : Cu → Option (ByteArray × Cu)}, (∀ x, Cur x.1 → ∃ y, S0 x = some y ∧ Cur y.2) → (∀ x, Cur x.1 ∧ x.2 ≠ [] → ∃ y, S x = some y ∧ QS x y) →
      (∀ x, Cur x → ∃ y, S1 x = some y ∧ Cur y.2 ∧ y.1.size ≤ 30) → ∀ b i h, Cur (b, (i, h)) → ∃ y, spec_l1NameAny.body S0 S S1 b i h = some y ∧ Cur y.2 ∧ y.1.size ≤ 30 := by
    intro S0 S S1 hS0 hS hS1 b i h hc
    unfold spec_l1NameAny.body
    generalize hl : ((bs []) :: _ : List ByteArray) = l
    have hsz : ∀ s ∈ l, s.size ≤ 30 := by rw [← hl]; decide
    obtain ⟨⟨v0, b0, i0, h0⟩, hy0, q0⟩ := hS0 ((b, (i, h)), 8) hc
    rw [hy0, Option.bind_some]
    cases v0 with
    | true =>
      obtain ⟨⟨v, b1, i1, h1⟩, hy, q1, q2⟩ := hS ((b0, (i0, h0)), l) ⟨q0, by rw [← hl]; simp⟩
      exact ⟨_, by simp only [cond_true, hy, Option.bind_some], q1, hsz _ q2⟩
    | false =>
      obtain ⟨⟨v, b1, i1, h1⟩, hy, q1, q2⟩ := hS1 (b0, (i0, h0)) q0
      exact ⟨_, by simp only [cond_false, hy, Option.bind_some], q1, q2⟩
  exact Has.of (spec_l1NameAny.con S0 S S1 hc0 hc hc1) fun (b, (i, h)) hx => key hS0 hS hS1 b i h hx

theorem l1New_loop (b : List Int) : ∀ (n i : Nat) (h : Int), i ≤ 4000 → 4000 - i < n → ∃ y, go spec_l1New.step n (.L0 b h (i : Int)) = some y ∧ ∃ h', y = ((b, (0, h')), ()) := by
  intro n
  induction n with
  | zero => intro i h _ hn; omega
  | succ n ih =>
    intro i h hi hn
    show ∃ y, spec_l1New.step (go spec_l1New.step n) _ = _ ∧ _
    by_cases h1 : (i : Int) < (b.length : Int)
    · by_cases h2 : (i : Int) < 4000
      · obtain ⟨y, hy, e⟩ := ih (i + 1) (iand .i64 (IntKind.wrap .i64 ((IntKind.wrap .i64 ((IntKind.wrap .i64 (h * 137)) + (IntKind.wrap .i64 (List.getD b (Int.toNat i) 0)))) + 11)) 1073741823) (by omega) (by omega)
        have h0 : (0 : Int) ≤ (i : Int) := by omega
        have hw : IntKind.wrap .i64 ((i : Int) + 1) = ((i + 1 : Nat) : Int) := by rw [w64 (by omega) (by omega)]; omega
        refine ⟨y, ?_, e⟩
        rw [← hy]
        simp only [spec_l1New.step, h1, h2, h0, decide_true, cond_true, hw]
      · exact ⟨((b, (0, h)), ()), by simp only [spec_l1New.step, h1, h2, decide_true, decide_false, cond_true, cond_false], h, rfl⟩
    · exact ⟨((b, (0, h)), ()), by simp only [spec_l1New.step, h1, decide_false, cond_false], h, rfl⟩
theorem has_l1New : Has Tryd.prog 17 sg_spec_l1New (fun b => b.length ≤ 1048576) (fun _ y => Cur y.1) := by
  refine Has.of_go spec_l1New.con fun b hb => ?_
  obtain ⟨y, hy, h', e⟩ := l1New_loop b 4001 0 (IntKind.wrap .i64 (138138 + ((List.length b : Nat) : Int))) (by omega) (by omega)
  refine ⟨4001, y, hy, ?_⟩
  rw [e]
  exact ⟨hb, Int.le_refl _, Int.natCast_nonneg _⟩
end Go.Proofs.YtgbfelpdlekbkaaDoor
end

/- Draws: labels. -/
section
namespace Go.Proofs.YtgbfelpdlekbkaaDoor
open Go Go.Proofs Go.Lin Go.RowKit

theorem LabelGet_loop (l : Lb) (k : ByteArray) (hl : l.length ≤ 1000) : ∀ (n i : Nat), i ≤ l.length → l.length - i < n → ∃ y, go spec_LabelGet.step n (.L0 l k (i : Int)) = some y := by
  intro n
  induction n with
  | zero => intro i _ h; omega
  | succ n ih =>
    intro i hi hn
    show ∃ y, spec_LabelGet.step (go spec_LabelGet.step n) _ = _
    rcases Nat.lt_or_ge i l.length with hlt | hge
    · obtain ⟨y, hy⟩ := ih (i + 1) (by omega) (by omega)
      push_cast at hy
      have h0 : (0 : Int) ≤ (i : Int) := by omega
      have hlt' : (i : Int) < (l.length : Int) := by omega
      cases hq : seq_ (l.getD i (bs [], bs [])).1 k with
      | true => exact ⟨(((l.getD i (bs [], bs [])).2, true), ()), by simp only [spec_LabelGet.step, hlt', h0, decide_true, cond_true, Int.toNat_natCast, hq]⟩
      | false => exact ⟨y, by rw [← hy]; simp only [spec_LabelGet.step, hlt', h0, decide_true, cond_true, cond_false, Int.toNat_natCast, hq, wi hlt (show l.length < 9223372036854775807 by omega)]⟩
    · have hlt' : ¬ (i : Int) < (l.length : Int) := by omega
      exact ⟨((bs [], false), ()), by simp only [spec_LabelGet.step, hlt', decide_false, cond_false]⟩
theorem has_LabelGet : Has Tryd.prog 87 sg_spec_LabelGet (fun x => x.1.length ≤ 1000) (fun _ _ => True) :=
  Has.of_go spec_LabelGet.con fun (l, k) hl => let ⟨y, hy⟩ := LabelGet_loop l k hl (l.length + 1) 0 (by omega) (by omega); ⟨_, y, hy, trivial⟩

theorem LabelsOk_loop {S : ByteArray → Option (Bool × Unit)} (l : Lb) (hS : ∀ s : ByteArray, s.size ≤ 30 → ∃ b, S s = some (b, ())) (hl : LB 1000 l) : ∀ (n i : Nat), i ≤ l.length → l.length - i < n → ∃ b, go (spec_LabelsOk.step S) n (.L0 l (i : Int)) = some (b, ()) := by
  intro n
  induction n with
  | zero => intro i _ h; omega
  | succ n ih =>
    intro i hi hn
    show ∃ b, spec_LabelsOk.step S (go (spec_LabelsOk.step S) n) _ = _
    have hll := hl.1
    rcases Nat.lt_or_ge i l.length with hlt | hge
    · obtain ⟨b, hb⟩ := ih (i + 1) (by omega) (by omega)
      push_cast at hb
      have h0 : (0 : Int) ≤ (i : Int) := by omega
      have hlt' : (i : Int) < (l.length : Int) := by omega
      have hp := hl.2 _ (List.getElem_mem hlt)
      obtain ⟨b1, e1⟩ := hS l[i].1 hp.1
      obtain ⟨b2, e2⟩ := hS l[i].2 hp.2
      cases b1 with
      | false => exact ⟨false, by simp only [spec_LabelsOk.step, hlt', h0, decide_true, cond_true, Int.toNat_natCast, getD_at hlt, e1, Option.bind_some, Bool.not_false]⟩
      | true =>
        cases b2 with
        | false => exact ⟨false, by simp only [spec_LabelsOk.step, hlt', h0, decide_true, cond_true, cond_false, Int.toNat_natCast, getD_at hlt, e1, e2, Option.bind_some, Bool.not_false, Bool.not_true]⟩
        | true =>
          have hw := wi hlt (show l.length < 9223372036854775807 by omega)
          rcases Nat.eq_zero_or_pos i with rfl | hpos
          · have hn0 : ¬ (0 : Int) < ((0 : Nat) : Int) := by omega
            exact ⟨b, by simp only [spec_LabelsOk.step, hlt', h0, hn0, decide_true, decide_false, cond_true, cond_false, Int.toNat_natCast, getD_at hlt, e1, e2, Option.bind_some, Bool.not_true, hw, hb]⟩
          · have h1 : (0 : Int) < (i : Int) := by omega
            have h2 : (0 : Int) ≤ (i : Int) - 1 := by omega
            have h3 : (i : Int) - 1 < (l.length : Int) := by omega
            cases hq : slt (l.getD (((i : Int) - 1).toNat) (bs [], bs [])).1 l[i].1 with
            | true => exact ⟨b, by simp only [spec_LabelsOk.step, hlt', h0, h1, h2, h3, wpred hpos (show i < 9223372036854775807 by omega), decide_true, cond_true, cond_false, Int.toNat_natCast, getD_at hlt, e1, e2, Option.bind_some, Bool.not_true, hw, hb, hq]⟩
            | false => exact ⟨false, by simp only [spec_LabelsOk.step, hlt', h0, h1, h2, h3, wpred hpos (show i < 9223372036854775807 by omega), decide_true, cond_true, cond_false, Int.toNat_natCast, getD_at hlt, e1, e2, Option.bind_some, Bool.not_true, Bool.not_false, hq]⟩
    · have hlt' : ¬ (i : Int) < (l.length : Int) := by omega
      exact ⟨decide ((l.length : Int) ≤ 8), by simp only [spec_LabelsOk.step, hlt', decide_false, cond_false]⟩
theorem has_LabelsOk : Has Tryd.prog 88 sg_spec_LabelsOk (LB 1000) (fun _ _ => True) := by
  obtain ⟨S, hc, hS⟩ := has_spec_NameOk
  refine Has.of_go (spec_LabelsOk.con S hc) fun l hl => ?_
  obtain ⟨b, hb⟩ := LabelsOk_loop (S := S) l (fun s hs => ⟨nameOk s, hS.eq (show small s by omega)⟩) hl (l.length + 1) 0 (by omega) (by omega)
  exact ⟨_, _, hb, trivial⟩
theorem has_l1Labels : Has Tryd.prog 89 sg_spec_l1Labels (LB 1000) (fun x y => y.1 = x) := by
  refine Has.of spec_l1Labels.con fun l hl => ⟨(l, ()), ?_, rfl⟩
  have h := hl.1
  have : (0 + l.length) * 32 ≤ 140737488355328 := by omega
  show spec_l1Labels.body l = _
  rw [spec_l1Labels.body, decide_eq_true this]
  rfl

theorem LabelSet_loop {S0 : ByteArray → Option (Bool × Unit)} {S1 : Lb × ByteArray → Option ((ByteArray × Bool) × Unit)} {S2 : Lb → Option (Bool × Unit)} {S3 : Lb → Option (Lb × Unit)} (l : Lb) (k v : ByteArray) (hk : k.size ≤ 30) (hv : v.size ≤ 30) (hl : LB 1000 l) :
    ∀ (n i : Nat) (put : Bool) (out : Lb), i ≤ l.length → l.length - i < n → LB (i + if put then 1 else 0) out → ∃ y, go (spec_LabelSet.step S0 S1 S2 S3) n (.L0 l k v put (i : Int) out) = some y ∧ LB (l.length + 1) y.1.1 := by
  intro n
  induction n with
  | zero => intro i _ _ _ h; omega
  | succ n ih =>
    intro i put out hi hn ho
    show ∃ y, spec_LabelSet.step S0 S1 S2 S3 (go (spec_LabelSet.step S0 S1 S2 S3) n) _ = _ ∧ _
    have hll := hl.1
    have hol := ho.1
    have hol2 : out.length ≤ 1001 := by split at hol <;> omega
    have c1 : ∀ p : ByteArray × ByteArray, (out.length + (p :: []).length) * 32 ≤ 140737488355328 := fun p => by
      simp only [List.length_cons, List.length_nil]; omega
    have c2 : ∀ p q : ByteArray × ByteArray, ((out ++ (p :: [])).length + (q :: []).length) * 32 ≤ 140737488355328 := fun p q => by
      simp only [List.length_append, List.length_cons, List.length_nil]; omega
    rcases Nat.lt_or_ge i l.length with hlt | hge
    · have h0 : (0 : Int) ≤ (i : Int) := by omega
      have hlt' : (i : Int) < (l.length : Int) := by omega
      have hp := hl.2 _ (List.getElem_mem hlt)
      have hw := wi hlt (show l.length < 9223372036854775807 by omega)
      cases put with
      | true =>
        cases hq : seq_ l[i].1 k with
        | false =>
          obtain ⟨y, hy, e⟩ := ih (i + 1) true (out ++ [(l[i].1, l[i].2)]) (by omega) (by omega) (ho.snoc hp |>.mono (by simp only [if_pos]; omega))
          push_cast at hy
          exact ⟨y, by rw [← hy]; simp only [spec_LabelSet.step, hlt', h0, decide_true, cond_true, cond_false, Int.toNat_natCast, getD_at hlt, hq, Bool.not_true, Bool.not_false, c1, hw], e⟩
        | true =>
          obtain ⟨y, hy, e⟩ := ih (i + 1) true out (by omega) (by omega) (ho.mono (by simp only [if_pos]; omega))
          push_cast at hy
          exact ⟨y, by rw [← hy]; simp only [spec_LabelSet.step, hlt', h0, decide_true, cond_true, cond_false, Int.toNat_natCast, getD_at hlt, hq, Bool.not_true, hw], e⟩
      | false =>
        cases hs : slt l[i].1 k with
        | true =>
          cases hq : seq_ l[i].1 k with
          | false =>
            obtain ⟨y, hy, e⟩ := ih (i + 1) false (out ++ [(l[i].1, l[i].2)]) (by omega) (by omega) (ho.snoc hp |>.mono (by simp))
            push_cast at hy
            exact ⟨y, by rw [← hy]; simp only [spec_LabelSet.step, hlt', h0, decide_true, cond_true, cond_false, Int.toNat_natCast, getD_at hlt, hq, hs, Bool.not_true, Bool.not_false, c1, hw], e⟩
          | true =>
            obtain ⟨y, hy, e⟩ := ih (i + 1) false out (by omega) (by omega) (ho.mono (by simp))
            push_cast at hy
            exact ⟨y, by rw [← hy]; simp only [spec_LabelSet.step, hlt', h0, decide_true, cond_true, cond_false, Int.toNat_natCast, getD_at hlt, hq, hs, Bool.not_true, Bool.not_false, hw], e⟩
        | false =>
          cases hq : seq_ l[i].1 k with
          | false =>
            obtain ⟨y, hy, e⟩ := ih (i + 1) true (out ++ [(k, v)] ++ [(l[i].1, l[i].2)]) (by omega) (by omega) ((ho.snoc ⟨hk, hv⟩).snoc hp |>.mono (by simp))
            push_cast at hy
            exact ⟨y, by rw [← hy]; simp only [spec_LabelSet.step, hlt', h0, decide_true, cond_true, cond_false, Int.toNat_natCast, getD_at hlt, hq, hs, Bool.not_false, c1, c2, hw], e⟩
          | true =>
            obtain ⟨y, hy, e⟩ := ih (i + 1) true (out ++ [(k, v)]) (by omega) (by omega) (ho.snoc ⟨hk, hv⟩ |>.mono (by simp))
            push_cast at hy
            exact ⟨y, by rw [← hy]; simp only [spec_LabelSet.step, hlt', h0, decide_true, cond_true, cond_false, Int.toNat_natCast, getD_at hlt, hq, hs, Bool.not_true, Bool.not_false, c1, hw], e⟩
    · obtain rfl : i = l.length := by omega
      have hlt' : ¬ (l.length : Int) < (l.length : Int) := by omega
      cases put with
      | true => exact ⟨((out, true), ()), by simp only [spec_LabelSet.step, hlt', decide_false, cond_false, Bool.not_true], ho⟩
      | false => exact ⟨((out ++ [(k, v)], true), ()), by simp only [spec_LabelSet.step, hlt', decide_false, decide_true, cond_false, cond_true, Bool.not_false, c1], ho.snoc ⟨hk, hv⟩⟩
theorem LabelSet_body {S0 : ByteArray → Option (Bool × Unit)} {S1 : Lb × ByteArray → Option ((ByteArray × Bool) × Unit)} {S2 : Lb → Option (Bool × Unit)} {S3 : Lb → Option (Lb × Unit)} (l : Lb) (k v : ByteArray) (hk : k.size ≤ 30) (hv : v.size ≤ 30) (hl : LB 1000 l)
    (h0 : ∀ s : ByteArray, s.size ≤ 30 → ∃ b, S0 s = some (b, ())) (h1 : ∃ y, S1 (l, k) = some y) (h2 : ∃ y, S2 l = some y) (h3 : ∃ y, S3 l = some y ∧ y.1 = l) :
    ∃ y, spec_LabelSet.body S0 S1 S2 S3 (go (spec_LabelSet.step S0 S1 S2 S3) (l.length + 1)) l k v = some y ∧ LB (l.length + 1) y.1.1 := by
  obtain ⟨y1, e1⟩ := h1
  obtain ⟨⟨b2, u2⟩, e2⟩ := h2
  obtain ⟨⟨l3, u3⟩, e3, e3'⟩ := h3
  simp only at e3'
  subst e3'
  obtain ⟨b4, e4⟩ := h0 k hk
  obtain ⟨b5, e5⟩ := h0 v hv
  obtain ⟨y, hy, e⟩ := LabelSet_loop (S0 := S0) (S1 := S1) (S2 := S2) (S3 := S3) l3 k v hk hv hl (l3.length + 1) 0 false [] (by omega) (by omega) ⟨by simp, by simp⟩
  have hy : go (spec_LabelSet.step S0 S1 S2 S3) (l3.length + 1) (.L0 l3 k v false 0 []) = some y := hy
  have hll : LB (l3.length + 1) l3 := ⟨Nat.le_succ _, hl.2⟩
  unfold spec_LabelSet.body
  rw [e1, Option.bind_some, e2, Option.bind_some]
  cases b2 with
  | false => exact ⟨((l3, false), ()), by simp only [Bool.not_false, cond_true, e3, Option.bind_some], hll⟩
  | true =>
    simp only [Bool.not_true, cond_false, e4, Option.bind_some]
    cases b4 with
    | false => exact ⟨((l3, false), ()), by simp only [Bool.not_false, cond_true, e3, Option.bind_some], hll⟩
    | true =>
      simp only [Bool.not_true, cond_false, e5, Option.bind_some]
      cases b5 with
      | false => exact ⟨((l3, false), ()), by simp only [Bool.not_false, cond_true, e3, Option.bind_some], hll⟩
      | true =>
        simp only [Bool.not_true, cond_false]
        cases y1.1.2 with
        | true => exact ⟨y, by simp only [Bool.not_true, cond_false, hy], e⟩
        | false =>
          simp only [Bool.not_false, cond_true]
          cases ((l3.length : Int) == 8) with
          | true => exact ⟨((l3, false), ()), by simp only [cond_true, e3, Option.bind_some], hll⟩
          | false => exact ⟨y, by simp only [cond_false, hy], e⟩
theorem has_LabelSet : Has Tryd.prog 75 sg_spec_LabelSet (fun x => LB 1000 x.1 ∧ x.2.1.size ≤ 30 ∧ x.2.2.size ≤ 30) (fun x y => LB (x.1.length + 1) y.1.1) := by
  obtain ⟨S0, hc0, hS0⟩ := has_spec_NameOk
  obtain ⟨S1, hc1, hS1⟩ := has_LabelGet
  obtain ⟨S2, hc2, hS2⟩ := has_LabelsOk
  obtain ⟨S3, hc3, hS3⟩ := has_l1Labels
  refine Has.of_go (spec_LabelSet.con S0 S1 S2 S3 hc0 hc1 hc2 hc3) fun (l, k, v) ⟨hl, hk, hv⟩ => ?_
  obtain ⟨y1, e1, _⟩ := hS1 (l, k) hl.1
  obtain ⟨y2, e2, _⟩ := hS2 l hl
  obtain ⟨y, hy, e⟩ := LabelSet_body (S0 := S0) (S1 := S1) (S2 := S2) (S3 := S3) l k v hk hv hl (fun s hs => ⟨nameOk s, hS0.eq (show small s by omega)⟩) ⟨y1, e1⟩ ⟨y2, e2⟩ (hS3 l hl)
  exact ⟨_, y, hy, e⟩

theorem l1Draw_loop {S0 : Cu × Int → Option (Int × Cu)} {S1 : Lb × ByteArray × ByteArray → Option ((Lb × Bool) × Unit)} {S2 : Cu → Option (ByteArray × Cu)} (h1 : ∀ l k v, LB 1000 l → k.size ≤ 30 → v.size ≤ 30 → ∃ y, S1 (l, k, v) = some y ∧ LB (l.length + 1) y.1.1)
    (h2 : ∀ c, Cur c → ∃ y, S2 c = some y ∧ Cur y.2 ∧ y.1.size ≤ 30) :
    ∀ (n m : Nat) (l : Lb) (c : Cu), m < n → l.length + m ≤ 100 → LB 100 l → Cur c → ∃ y, go (spec_l1Draw.step S0 S1 S2) n (.L0 l (m : Int) c.1 c.2.1 c.2.2) = some y ∧ LB 100 y.1 ∧ Cur y.2 := by
  intro n
  induction n with
  | zero => intro m _ _ h; omega
  | succ n ih =>
    intro m l c hm hl hb hc
    show ∃ y, spec_l1Draw.step S0 S1 S2 (go (spec_l1Draw.step S0 S1 S2) n) _ = _ ∧ _
    rcases Nat.eq_zero_or_pos m with rfl | hpos
    · exact ⟨(l, c), by simp only [spec_l1Draw.step, show ¬ (0 : Int) < ((0 : Nat) : Int) by omega, decide_false, cond_false], hb, hc⟩
    · obtain ⟨⟨k, c1⟩, e1, hc1, hk⟩ := h2 c hc
      obtain ⟨⟨v, c2⟩, e2, hc2, hv⟩ := h2 c1 hc1
      obtain ⟨⟨⟨l', b⟩, u⟩, e3, hl'⟩ := h1 l k v (hb.mono (by omega)) hk hv
      have hl' : LB (l.length + 1) l' := hl'
      obtain ⟨y, hy, e⟩ := ih (m - 1) l' c2 (by omega) (by have := hl'.1; omega) (hl'.mono (by omega)) hc2
      have hw : IntKind.wrap .i64 ((m : Int) - 1) = ((m - 1 : Nat) : Int) := by rw [w64 (by omega) (by omega)]; omega
      refine ⟨y, ?_, e⟩
      rw [← hy]
      have e1 : S2 (c.1, c.2.1, c.2.2) = some (k, c1) := e1
      have e2 : S2 (c1.1, c1.2.1, c1.2.2) = some (v, c2) := e2
      simp only [spec_l1Draw.step, show (0 : Int) < (m : Int) by omega, decide_true, cond_true, e1, e2, e3, Option.bind_some, hw]
theorem has_l1Draw : Has Tryd.prog 58 sg_spec_l1Draw (fun x => Cur x.1 ∧ x.2 ≤ 100) (fun _ y => LB 100 y.1 ∧ Cur y.2) := by
  obtain ⟨S0, hc0, hS0⟩ := has_l1Below
  obtain ⟨S1, hc1, hS1⟩ := has_LabelSet
  obtain ⟨S2, hc2, hS2⟩ := has_l1Name
  refine Has.of_go (spec_l1Draw.con S0 S1 S2 hc0 hc1 hc2) fun ((b, (i, h)), most) ⟨hcur, hm⟩ => ?_
  have key : ∀ {S0 : Cu × Int → Option (Int × Cu)} {S1 : Lb × ByteArray × ByteArray → Option ((Lb × Bool) × Unit)} {S2 : Cu → Option (ByteArray × Cu)}, ∀ (b : List Int) (i h most : Int), most ≤ 100 → (∃ y, S0 ((b, (i, h)), most) = some y ∧ QB most y) →
      (∀ (l : Lb) (k v : ByteArray), LB 1000 l → k.size ≤ 30 → v.size ≤ 30 → ∃ y, S1 (l, k, v) = some y ∧ LB (l.length + 1) y.1.1) → (∀ c, Cur c → ∃ y, S2 c = some y ∧ Cur y.2 ∧ y.1.size ≤ 30) →
      ∃ n y, spec_l1Draw.body S0 S1 S2 (go (spec_l1Draw.step S0 S1 S2) n) b i h most = some y ∧ LB 100 y.1 ∧ Cur y.2 := by
    intro S0 S1 S2 b i h most hm h0 h1 h2
    obtain ⟨⟨m, c⟩, e0, q1, q2, q3, q4⟩ := h0
    simp only at q1 q2 q3 q4
    have hm' : m ≤ 100 := by
      by_cases h : 0 < most
      · have := q3 h; omega
      · have := q4 (by omega); omega
    obtain ⟨k, rfl⟩ : ∃ k : Nat, m = (k : Int) := ⟨m.toNat, by omega⟩
    obtain ⟨y, hy, e⟩ := l1Draw_loop (S0 := S0) h1 h2 (k + 1) k [] c (by omega) (by simp; omega) ⟨by simp, by simp⟩ q1
    exact ⟨k + 1, y, by rw [spec_l1Draw.body, e0, Option.bind_some]; exact hy, e⟩
  exact key b i h most hm (hS0 ((b, (i, h)), most) hcur) (fun l k v h1 h2 h3 => hS1 (l, k, v) ⟨h1, h2, h3⟩) hS2
end Go.Proofs.YtgbfelpdlekbkaaDoor
end

/- Draws: values. -/
section
namespace Go.Lin
def BV (N : Nat) : Nat → GVal → Prop
  | 0, _ => False
  | h + 1, v => v.text.size ≤ N ∧ v.keys.length ≤ N ∧ (∀ k ∈ v.keys, k.size ≤ N) ∧ v.kids.length ≤ N ∧ in64 v.num ∧ ∀ k ∈ v.kids, BV N h k
def FV (N : Nat) (v : GVal) : Prop := ∃ h, BV N h v
theorem BV.up {N h : Nat} {v : GVal} (hb : BV N h v) : BV N (h + 1) v := by
  induction h generalizing v with
  | zero => exact hb.elim
  | succ h ih =>
    obtain ⟨a, b, c, d, e, f⟩ := hb
    exact ⟨a, b, c, d, e, fun k hk => ih (f k hk)⟩
theorem BV.le {N h h' : Nat} {v : GVal} (hb : BV N h v) (hh : h ≤ h') : BV N h' v := by
  induction hh with
  | refl => exact hb
  | step _ ih => exact ih.up
theorem BV.wide {N M h : Nat} {v : GVal} (hb : BV N h v) (hm : N ≤ M) : BV M h v := by
  induction h generalizing v with
  | zero => exact hb.elim
  | succ h ih =>
    obtain ⟨a, b, c, d, e, f⟩ := hb
    exact ⟨by omega, by omega, fun k hk => Nat.le_trans (c k hk) hm, by omega, e, fun k hk => ih (f k hk)⟩
theorem FV.wide {N M : Nat} {v : GVal} (hb : FV N v) (hm : N ≤ M) : FV M v := let ⟨h, hv⟩ := hb; ⟨h, hv.wide hm⟩
theorem FV.common {N : Nat} {l : List GVal} (h : ∀ k ∈ l, FV N k) : ∃ m, ∀ k ∈ l, BV N m k := by
  induction l with
  | nil => exact ⟨0, by simp⟩
  | cons x l ih =>
    obtain ⟨m, hm⟩ := ih fun k hk => h k (by simp [hk])
    obtain ⟨m', hm'⟩ := h x (by simp)
    refine ⟨max m m', fun k hk => ?_⟩
    rcases List.mem_cons.1 hk with rfl | hk
    · exact hm'.le (Nat.le_max_right _ _)
    · exact (hm k hk).le (Nat.le_max_left _ _)
theorem FV.mk {N : Nat} {v : GVal} (a : v.text.size ≤ N) (b : v.keys.length ≤ N) (c : ∀ k ∈ v.keys, k.size ≤ N) (d : v.kids.length ≤ N) (e : in64 v.num) (f : ∀ k ∈ v.kids, FV N k) : FV N v :=
  let ⟨m, hm⟩ := FV.common f
  ⟨m + 1, a, b, c, d, e, hm⟩
theorem FV.parts {N : Nat} {v : GVal} (hv : FV N v) : v.text.size ≤ N ∧ v.keys.length ≤ N ∧ (∀ k ∈ v.keys, k.size ≤ N) ∧ v.kids.length ≤ N ∧ in64 v.num ∧ ∀ k ∈ v.kids, FV N k := by
  obtain ⟨h, hv⟩ := hv
  cases h with
  | zero => exact hv.elim
  | succ h =>
    obtain ⟨a, b, c, d, e, f⟩ := hv
    exact ⟨a, b, c, d, e, fun k hk => ⟨h, f k hk⟩⟩
theorem BV.bnd {N h : Nat} {v : GVal} (hN : N < 4294967296) (hb : BV N h v) : Bnd h v := by
  induction h generalizing v with
  | zero => exact hb.elim
  | succ h ih =>
    obtain ⟨a, b, c, d, e, f⟩ := hb
    exact ⟨Nat.lt_of_le_of_lt a hN, ⟨Nat.lt_of_le_of_lt b hN, fun k hk => Nat.lt_of_le_of_lt (c k hk) hN⟩, Nat.lt_of_le_of_lt d hN, e, fun k hk => ih (f k hk)⟩
theorem FV.fine {N : Nat} {v : GVal} (hN : N < 4294967296) (hb : FV N v) : Fine v := let ⟨h, hv⟩ := hb; ⟨h, hv.bnd hN⟩
end Go.Lin
namespace Go.Proofs.YtgbfelpdlekbkaaDoor
open Go Go.Proofs Go.Lin Go.RowKit

abbrev QD (y : GVal × Cu) : Prop := FV 1000 y.1 ∧ Cur y.2
section
variable {SD : Cu × Int → Option (GVal × Cu)} {S1 : Cu × Int → Option (Int × Cu)} {S2 : Cu × List ByteArray → Option (ByteArray × Cu)} {S3 : Cu × List Int → Option (Int × Cu)} {S4 : Cu × Int → Option (Lb × Cu)}

theorem draw_loop0 {d : Nat} (hd : d ≤ 100) (hD : ∀ c, Cur c → ∃ y, SD (c, (d : Int)) = some y ∧ QD y) (z1 : Int) (z2 : ByteArray) (z3 kind : Int) (t : ByteArray) (num : Int) (ht : t.size ≤ 1000) (hnum : in64 num) :
    ∀ (n m : Nat) (kids : List GVal) (c : Cu), m < n → kids.length + m ≤ 100 → (∀ k ∈ kids, FV 1000 k) → Cur c → ∃ y, go (spec_l4Draw.step SD S1 S2 S3 S4) n (.L0 ((d + 1 : Nat) : Int) (m : Int) c.1 c.2.1 c.2.2 z1 z2 z3 kind t num kids) = some y ∧ QD y := by
  intro n
  induction n with
  | zero => intro m _ _ h; omega
  | succ n ih =>
    intro m kids c hm hl hk hc
    show ∃ y, spec_l4Draw.step SD S1 S2 S3 S4 (go (spec_l4Draw.step SD S1 S2 S3 S4) n) _ = _ ∧ _
    rcases Nat.eq_zero_or_pos m with rfl | hpos
    · exact ⟨(⟨kind, t, num, [], kids⟩, c), by simp only [spec_l4Draw.step, show ¬ (0 : Int) < ((0 : Nat) : Int) by omega, decide_false, cond_false], FV.mk ht (by simp) (by simp) (by simp only; omega) hnum hk, hc⟩
    · obtain ⟨⟨v, c1⟩, e1, hv, hc1⟩ := hD c hc
      have e1 : SD ((c.1, c.2.1, c.2.2), (d : Int)) = some (v, c1) := e1
      have hw : IntKind.wrap .i64 (((d + 1 : Nat) : Int) - 1) = (d : Int) := by rw [w64 (by omega) (by omega)]; omega
      have hw2 : IntKind.wrap .i64 ((m : Int) - 1) = ((m - 1 : Nat) : Int) := by rw [w64 (by omega) (by omega)]; omega
      have cap : (kids.length + (v :: []).length) * 80 ≤ 140737488355328 := by simp only [List.length_cons, List.length_nil]; omega
      obtain ⟨y, hy, e⟩ := ih (m - 1) (kids ++ [v]) c1 (by omega) (by simp; omega) (fun k hk' => by
        rcases List.mem_append.1 hk' with h | h
        · exact hk k h
        · rw [List.mem_singleton.1 h]; exact hv) hc1
      exact ⟨y, by rw [← hy]; simp only [spec_l4Draw.step, re_eq, show (0 : Int) < (m : Int) by omega, decide_true, cond_true, hw, e1, Option.bind_some, cap, hw2], e⟩

theorem draw_loop1 {d : Nat} (hd : d ≤ 100) (hD : ∀ c, Cur c → ∃ y, SD (c, (d : Int)) = some y ∧ QD y) (l : Lb) (hlb : LB 100 l) (z1 : Int) (z2 : ByteArray) (z3 kind : Int) (t : ByteArray) (num : Int) (ht : t.size ≤ 1000) (hnum : in64 num) :
    ∀ (n i : Nat) (keys : List ByteArray) (kids : List GVal) (c : Cu), i ≤ l.length → l.length - i < n → keys.length = i → kids.length = i → (∀ k ∈ keys, k.size ≤ 1000) → (∀ k ∈ kids, FV 1000 k) → Cur c →
      ∃ y, go (spec_l4Draw.step SD S1 S2 S3 S4) n (.L1 ((d + 1 : Nat) : Int) l (i : Int) c.1 c.2.1 c.2.2 z1 z2 z3 kind t num keys kids) = some y ∧ QD y := by
  have hll := hlb.1
  intro n
  induction n with
  | zero => intro i _ _ _ _ h; omega
  | succ n ih =>
    intro i keys kids c hi hn hkl hvl hks hk hc
    show ∃ y, spec_l4Draw.step SD S1 S2 S3 S4 (go (spec_l4Draw.step SD S1 S2 S3 S4) n) _ = _ ∧ _
    rcases Nat.lt_or_ge i l.length with hlt | hge
    · obtain ⟨⟨v, c1⟩, e1, hv, hc1⟩ := hD c hc
      have e1 : SD ((c.1, c.2.1, c.2.2), (d : Int)) = some (v, c1) := e1
      have hw : IntKind.wrap .i64 (((d + 1 : Nat) : Int) - 1) = (d : Int) := by rw [w64 (by omega) (by omega)]; omega
      have cap : (kids.length + (v :: []).length) * 80 ≤ 140737488355328 := by simp only [List.length_cons, List.length_nil]; omega
      have capk : (keys.length + (l[i].1 :: []).length) * 16 ≤ 140737488355328 := by simp only [List.length_cons, List.length_nil]; omega
      have hp := hlb.2 _ (List.getElem_mem hlt)
      have h0 : (0 : Int) ≤ (i : Int) := by omega
      have hlt' : (i : Int) < (l.length : Int) := by omega
      obtain ⟨y, hy, e⟩ := ih (i + 1) (keys ++ [l[i].1]) (kids ++ [v]) c1 (by omega) (by omega) (by simp; omega) (by simp; omega) (fun k hk' => by
        rcases List.mem_append.1 hk' with h | h
        · exact hks k h
        · rw [List.mem_singleton.1 h]; omega) (fun k hk' => by
        rcases List.mem_append.1 hk' with h | h
        · exact hk k h
        · rw [List.mem_singleton.1 h]; exact hv) hc1
      push_cast at hy
      exact ⟨y, by rw [← hy]; simp only [spec_l4Draw.step, re_eq, hlt', h0, decide_true, cond_true, Int.toNat_natCast, getD_at hlt, hw, e1, Option.bind_some, cap, capk, wi hlt (show l.length < 9223372036854775807 by omega)]; push_cast; rfl, e⟩
    · have hlt' : ¬ (i : Int) < (l.length : Int) := by omega
      exact ⟨(⟨kind, t, num, keys, kids⟩, c), by simp only [spec_l4Draw.step, hlt', decide_false, cond_false], FV.mk ht (by simp only; omega) hks (by simp only; omega) hnum hk, hc⟩

theorem draw_body {d : Nat} (hd : d ≤ 100) (hD : ∀ e, e < d → ∀ c, Cur c → ∃ y, SD (c, (e : Int)) = some y ∧ QD y) (h1 : ∀ c n, Cur c → ∃ y, S1 (c, n) = some y ∧ QB n y) (h2 : ∀ c l, Cur c → l ≠ [] → ∃ y, S2 (c, l) = some y ∧ Cur y.2 ∧ y.1 ∈ l)
    (h3 : ∀ c l, Cur c → l ≠ [] → ∃ y, S3 (c, l) = some y ∧ Cur y.2 ∧ y.1 ∈ l) (h4 : ∀ c, Cur c → ∃ y, S4 (c, 5) = some y ∧ LB 100 y.1 ∧ Cur y.2) (b : List Int) (i h : Int) (hc : Cur (b, (i, h))) :
    ∃ y, spec_l4Draw.body SD S1 S2 S3 S4 (go (spec_l4Draw.step SD S1 S2 S3 S4) 102) b i h (d : Int) = some y ∧ QD y := by
  have plain : ∀ (k : Int) (t : ByteArray) (num : Int) (c : Cu), t.size ≤ 1000 → in64 num → Cur c → QD (⟨k, t, num, [], []⟩, c) := fun k t num c ht hn hc => ⟨FV.mk ht (by simp) (by simp) (by simp) hn (by simp), hc⟩
  have z0 : in64 0 := by decide
  have e0 : (bs []).size ≤ 1000 := by decide
  obtain ⟨⟨v0, b0, i0, h0⟩, hy0, q1, q2, q3, _⟩ := h1 (b, (i, h)) 5 hc
  simp only at q1 q2 q3
  have q3 := q3 (by omega)
  have hw : IntKind.wrap .i64 (1 + v0) = 1 + v0 := w64 (by omega) (by omega)
  have strs : ∀ c : Cu, Cur c → ∃ y, S2 (c, ((bs []) :: ((bs [97]) :: ((bs [120, 32, 121]) :: ((bs [34]) :: ((bs [92, 110]) :: [(bs [105, 109, 97, 103, 101, 58, 49])])))))) = some y ∧ Cur y.2 ∧ y.1.size ≤ 1000 := fun c hc => by
    generalize hl : ((bs []) :: _ : List ByteArray) = l
    have hsz : ∀ s ∈ l, s.size ≤ 1000 := by rw [← hl]; decide
    obtain ⟨y, hy, hc, hm⟩ := h2 c l hc (by rw [← hl]; simp)
    exact ⟨y, hy, hc, hsz _ hm⟩
  have ints : ∀ c : Cu, Cur c → ∃ y, S3 (c, (0 :: (1 :: (80 :: ((-5) :: (9223372036854775807 :: [(-9223372036854775808)])))))) = some y ∧ Cur y.2 ∧ in64 y.1 := fun c hc => by
    generalize hl : ((0 : Int) :: _ : List Int) = l
    have hsz : ∀ s ∈ l, in64 s := by
      rw [← hl]
      intro s hs
      simp only [List.mem_cons, List.not_mem_nil, or_false] at hs
      rcases hs with rfl | rfl | rfl | rfl | rfl | rfl <;> decide
    obtain ⟨y, hy, hc, hm⟩ := h3 c l hc (by rw [← hl]; simp)
    exact ⟨y, hy, hc, hsz _ hm⟩
  have lists : ∀ (k : Int) (c : Cu) (m : Int), ¬ (d : Int) ≤ 1 → Cur c → 0 ≤ m → m ≤ 100 → ∃ y, go (spec_l4Draw.step SD S1 S2 S3 S4) 102 (.L0 (d : Int) m c.1 c.2.1 c.2.2 0 (bs []) 0 k (bs []) 0 []) = some y ∧ QD y := fun k c m hd1 hc hm1 hm2 => by
    obtain ⟨e, rfl⟩ : ∃ e, d = e + 1 := ⟨d - 1, by omega⟩
    obtain ⟨m, rfl⟩ : ∃ k : Nat, m = (k : Int) := ⟨m.toNat, by omega⟩
    exact draw_loop0 (by omega) (hD e (by omega)) 0 (bs []) 0 k (bs []) 0 e0 z0 102 m [] c (by omega) (by simp; omega) (by simp) hc
  have maps : ∀ (k : Int) (c : Cu) (l : Lb), ¬ (d : Int) ≤ 1 → Cur c → LB 100 l → ∃ y, go (spec_l4Draw.step SD S1 S2 S3 S4) 102 (.L1 (d : Int) l 0 c.1 c.2.1 c.2.2 0 (bs []) 0 k (bs []) 0 [] []) = some y ∧ QD y := fun k c l hd1 hc hl => by
    obtain ⟨e, rfl⟩ : ∃ e, d = e + 1 := ⟨d - 1, by omega⟩
    have := hl.1
    exact draw_loop1 (by omega) (hD e (by omega)) l hl 0 (bs []) 0 k (bs []) 0 e0 z0 102 0 [] [] c (by omega) (by omega) rfl rfl (by simp) (by simp) hc
  have kinds : v0 = 0 ∨ v0 = 1 ∨ v0 = 2 ∨ v0 = 3 ∨ v0 = 4 := by omega
  unfold spec_l4Draw.body
  rw [hy0, Option.bind_some]
  simp only [hw]
  obtain ⟨⟨t1, b1, i1, h1'⟩, ey1, c1, s1⟩ := strs (b0, i0, h0) q1
  obtain ⟨⟨n2, b2, i2, h2'⟩, ey2, c2, s2⟩ := ints (b0, i0, h0) q1
  obtain ⟨⟨n3, b3, i3, h3'⟩, ey3, c3, s3, s3', _⟩ := h1 (b0, i0, h0) 2 q1
  obtain ⟨⟨n4, b4, i4, h4'⟩, ey4, c4, s4, s4', _⟩ := h1 (b0, i0, h0) 4 q1
  obtain ⟨⟨l5, b5, i5, h5'⟩, ey5, c5, s5⟩ := h4 (b0, i0, h0) q1
  simp only at c1 s1 c2 s2 c3 s3 s3' c4 s4 s4' c5 s5
  have n3' : in64 n3 := by have := s3' (by omega); constructor <;> omega
  have n4' : n4 ≤ 100 := by have := s4' (by omega); omega
  by_cases hd1 : (d : Int) ≤ 1
  · rw [decide_eq_true hd1, cond_true]
    rcases kinds with rfl | rfl | rfl | rfl | rfl
    · exact ⟨(⟨1, t1, 0, [], []⟩, (b1, (i1, h1'))), by simp [ey1], plain _ _ _ _ s1 z0 c1⟩
    · exact ⟨(⟨2, bs [], n2, [], []⟩, (b2, (i2, h2'))), by simp [ey2], plain _ _ _ _ e0 s2 c2⟩
    · exact ⟨(⟨3, bs [], n3, [], []⟩, (b3, (i3, h3'))), by simp [ey3], plain _ _ _ _ e0 n3' c3⟩
    · exact ⟨(⟨2, bs [], n2, [], []⟩, (b2, (i2, h2'))), by simp [ey2], plain _ _ _ _ e0 s2 c2⟩
    · exact ⟨(⟨2, bs [], n2, [], []⟩, (b2, (i2, h2'))), by simp [ey2], plain _ _ _ _ e0 s2 c2⟩
  · rw [decide_eq_false hd1, cond_false]
    rcases kinds with rfl | rfl | rfl | rfl | rfl
    · exact ⟨(⟨1, t1, 0, [], []⟩, (b1, (i1, h1'))), by simp [ey1], plain _ _ _ _ s1 z0 c1⟩
    · exact ⟨(⟨2, bs [], n2, [], []⟩, (b2, (i2, h2'))), by simp [ey2], plain _ _ _ _ e0 s2 c2⟩
    · exact ⟨(⟨3, bs [], n3, [], []⟩, (b3, (i3, h3'))), by simp [ey3], plain _ _ _ _ e0 n3' c3⟩
    · obtain ⟨y, hy, e⟩ := lists 4 (b4, (i4, h4')) n4 hd1 c4 s4 n4'
      exact ⟨y, by rw [← hy]; simp [ey4], e⟩
    · obtain ⟨y, hy, e⟩ := maps 5 (b5, (i5, h5')) l5 hd1 s5 c5
      exact ⟨y, by rw [← hy]; simp [ey5], e⟩
end
theorem has_l4Draw : Has Tryd.prog 33 sg_spec_l4Draw (fun x => Cur x.1 ∧ ∃ d : Nat, x.2 = (d : Int) ∧ d ≤ 100) (fun _ y => QD y) := by
  obtain ⟨S1, hc1, hS1⟩ := has_l1Below
  obtain ⟨S2, hc2, hS2⟩ := has_l1Str
  obtain ⟨S3, hc3, hS3⟩ := has_l1Int
  obtain ⟨S4, hc4, hS4⟩ := has_l1Draw
  refine (Has.recN (sg := sg_spec_l4Draw) (Pre := fun k x => Cur x.1 ∧ ∃ d : Nat, x.2 = (d : Int) ∧ d < k ∧ d ≤ 100) (fun x ⟨_, d, _, h, _⟩ => by omega) fun k S hc hS => ?_).mono (fun x ⟨h0, d, h1, h2⟩ => ⟨d + 1, h0, d, h1, by omega, h2⟩) fun _ _ _ h => h
  refine Has.of_go (spec_l4Draw.con S S1 S2 S3 S4 hc hc1 hc2 hc3 hc4) fun ((b, (i, h)), n) ⟨hcur, d, hr, hk, hd⟩ => ?_
  obtain rfl : n = (d : Int) := hr
  obtain ⟨y, hy, e⟩ := draw_body (SD := S) (S1 := S1) (S2 := S2) (S3 := S3) (S4 := S4) hd (fun e he c hc => hS (c, (e : Int)) ⟨hc, e, rfl, by omega, by omega⟩) (fun c n hc => hS1 (c, n) hc) (fun c l hc hl => hS2 (c, l) ⟨hc, hl⟩)
    (fun c l hc hl => hS3 (c, l) ⟨hc, hl⟩) (fun c hc => hS4 (c, 5) ⟨hc, (show (5 : Int) ≤ 100 by decide)⟩) b i h hcur
  exact ⟨102, y, hy, e⟩
end Go.Proofs.YtgbfelpdlekbkaaDoor
end

/- Draws: values bent; any value. -/
section
namespace Go.Proofs.YtgbfelpdlekbkaaDoor
open Go Go.Proofs Go.Lin Go.RowKit

theorem copy_loop {S : GVal → Option (GVal × Unit)} (v : GVal) (hS : ∀ k ∈ v.kids, S k = some (k, ())) (hl : v.kids.length ≤ 1000000) (k0 : Int) (t0 : ByteArray) (n0 : Int) (z1 : Int) (z2 : ByteArray) (z3 : Int) (ks0 : List ByteArray) :
    ∀ (n i : Nat), i ≤ v.kids.length → v.kids.length - i < n → go (spec_l4Copy.step S) n (.L0 (i : Int) k0 t0 n0 ks0 v.kids z1 z2 z3 v.kind v.text v.num v.keys (v.kids.take i)) = some (v, ()) := by
  intro n
  induction n with
  | zero => intro i _ h; omega
  | succ n ih =>
    intro i hi hn
    show spec_l4Copy.step S (go (spec_l4Copy.step S) n) _ = _
    rcases Nat.lt_or_ge i v.kids.length with hlt | hge
    · have h0 : (0 : Int) ≤ (i : Int) := by omega
      have hlt' : (i : Int) < (v.kids.length : Int) := by omega
      have cap : ((v.kids.take i).length + (v.kids[i] :: []).length) * 80 ≤ 140737488355328 := by
        rw [List.length_take]; simp only [List.length_cons, List.length_nil]; omega
      have ih' := ih (i + 1) (by omega) (by omega)
      push_cast at ih'
      have hk : v.kids.take i ++ [v.kids[i]] = v.kids.take (i + 1) := List.take_append_getElem hlt
      simp only [spec_l4Copy.step, re_eq, hlt', h0, decide_true, cond_true, Int.toNat_natCast, getD_at hlt, hS _ (List.getElem_mem hlt), Option.bind_some, cap, hk, wi hlt (show v.kids.length < 9223372036854775807 by omega), ih']
    · obtain rfl : i = v.kids.length := by omega
      have hlt' : ¬ (v.kids.length : Int) < (v.kids.length : Int) := by omega
      simp only [spec_l4Copy.step, hlt', decide_false, cond_false, List.take_length]
      exact congrArg (fun x => some (x, ())) (re_eq v)
theorem copyO_loop {S : GVal → Option (GVal × Unit)} (v : GVal) (hS : ∀ k ∈ v.kids, S k = some (k, ())) (hl : v.kids.length ≤ 1000000) (k0 : Int) (t0 : ByteArray) (n0 : Int) (z1 : Int) (z2 : ByteArray) (z3 : Int) (ks0 : List ByteArray) :
    ∀ (n i : Nat), i ≤ v.kids.length → v.kids.length - i < n → go (spec_l4CopyO.step S) n (.L0 (i : Int) k0 t0 n0 ks0 v.kids z1 z2 z3 v.kind v.text v.num v.keys (v.kids.take i)) = some (v, ()) := by
  intro n
  induction n with
  | zero => intro i _ h; omega
  | succ n ih =>
    intro i hi hn
    show spec_l4CopyO.step S (go (spec_l4CopyO.step S) n) _ = _
    rcases Nat.lt_or_ge i v.kids.length with hlt | hge
    · have h0 : (0 : Int) ≤ (i : Int) := by omega
      have hlt' : (i : Int) < (v.kids.length : Int) := by omega
      have cap : ((v.kids.take i).length + (v.kids[i] :: []).length) * 80 ≤ 140737488355328 := by
        rw [List.length_take]; simp only [List.length_cons, List.length_nil]; omega
      have ih' := ih (i + 1) (by omega) (by omega)
      push_cast at ih'
      have hk : v.kids.take i ++ [v.kids[i]] = v.kids.take (i + 1) := List.take_append_getElem hlt
      simp only [spec_l4CopyO.step, re_eq, hlt', h0, decide_true, cond_true, Int.toNat_natCast, getD_at hlt, hS _ (List.getElem_mem hlt), Option.bind_some, cap, hk, wi hlt (show v.kids.length < 9223372036854775807 by omega), ih']
    · obtain rfl : i = v.kids.length := by omega
      have hlt' : ¬ (v.kids.length : Int) < (v.kids.length : Int) := by omega
      simp only [spec_l4CopyO.step, hlt', decide_false, cond_false, List.take_length]
      exact congrArg (fun x => some (x, ())) (re_eq v)
theorem copy_body {S : GVal → Option (GVal × Unit)} (v : GVal) (hS : ∀ k ∈ v.kids, S k = some (k, ())) (hl : v.kids.length ≤ 1000000) (hk : v.keys.length ≤ 1000000) : spec_l4Copy.body S (go (spec_l4Copy.step S) (v.kids.length + 1)) v = some (v, ()) := by
  have cap : (0 + v.keys.length) * 16 ≤ 140737488355328 := by omega
  rw [spec_l4Copy.body, decide_eq_true cap, cond_true]
  exact copy_loop v hS hl v.kind v.text v.num 0 (bs []) 0 v.keys _ 0 (by omega) (by omega)
theorem copyO_body {S : GVal → Option (GVal × Unit)} (v : GVal) (hS : ∀ k ∈ v.kids, S k = some (k, ())) (hl : v.kids.length ≤ 1000000) (hk : v.keys.length ≤ 1000000) : spec_l4CopyO.body S (go (spec_l4CopyO.step S) (v.kids.length + 1)) v = some (v, ()) := by
  have cap : (0 + v.keys.length) * 16 ≤ 140737488355328 := by omega
  rw [spec_l4CopyO.body, decide_eq_true cap, cond_true]
  exact copyO_loop v hS hl v.kind v.text v.num 0 (bs []) 0 v.keys _ 0 (by omega) (by omega)
theorem has_l4Copy : Has Tryd.prog 59 sg_spec_l4Copy (FV 1000000) (fun v y => y = (v, ())) := by
  refine (Has.recN (sg := sg_spec_l4Copy) (Pre := fun k v => BV 1000000 k v) (fun _ h => h) fun k S hc hS => ?_).mono (fun v h => h) fun _ _ _ h => h
  exact Has.of_go (spec_l4Copy.con S hc) fun v hv => ⟨v.kids.length + 1, (v, ()), copy_body v (fun q hq => hS.eq (hv.2.2.2.2.2 q hq)) hv.2.2.2.1 hv.2.1, rfl⟩
theorem has_l4CopyO : Has Tryd.prog 59 sg_spec_l4CopyO (FV 1000000) (fun v y => y = (v, ())) := by
  obtain ⟨S, hc, hS⟩ := has_l4Copy
  exact Has.of_go (spec_l4CopyO.con S hc) fun v hv => ⟨v.kids.length + 1, (v, ()), copyO_body v (fun q hq => hS.eq (hv.parts.2.2.2.2.2 q hq)) hv.parts.2.2.2.1 hv.parts.2.1, rfl⟩

abbrev QN (y : GVal × Cu) : Prop := FV 1001 y.1 ∧ Cur y.2
section
variable {S0 : Cu × Int → Option (Bool × Cu)} {SB : Cu × GVal → Option (GVal × Cu)} {S1 : Cu × Int → Option (Int × Cu)} {S2 : Cu × List ByteArray → Option (ByteArray × Cu)} {SC : GVal → Option (GVal × Unit)} {S3 : Cu → Option (ByteArray × Cu)}

theorem bend_loop : ∀ (n m : Nat) (c : Cu) (v : GVal) (z1 : Int) (z2 : ByteArray) (z3 : Int), m ≤ 6 → 6 - m < n → Cur c → FV 1001 v →
    ∃ y, go (spec_l4Bend.step S0 SB S1 S2 SC S3) n (.L0 (m : Int) c.1 c.2.1 c.2.2 z1 z2 z3 v.kind v.text v.num v.keys v.kids) = some y ∧ QN y := by
  intro n
  induction n with
  | zero => intro m _ _ _ _ _ _ h; omega
  | succ n ih =>
    intro m c v z1 z2 z3 hm hn hc hv
    show ∃ y, spec_l4Bend.step S0 SB S1 S2 SC S3 (go (spec_l4Bend.step S0 SB S1 S2 SC S3) n) _ = _ ∧ _
    by_cases h : (m : Int) < 6
    · obtain ⟨y, hy, e⟩ := ih (m + 1) c ⟨4, bs [], 0, [], [v]⟩ z1 z2 z3 (by omega) (by omega) hc (FV.mk (show (bs []).size ≤ 1001 by decide) (by simp) (by simp) (by simp) (show in64 0 by decide) (by simpa using hv))
      have hw : IntKind.wrap .i64 ((m : Int) + 1) = ((m + 1 : Nat) : Int) := by rw [w64 (by omega) (by omega)]; omega
      have he : GVal.mk v.kind v.text v.num v.keys v.kids = v := re_eq v
      exact ⟨y, by rw [← hy]; simp only [spec_l4Bend.step, h, decide_true, cond_true, hw, he], e⟩
    · have he : GVal.mk v.kind v.text v.num v.keys v.kids = v := re_eq v
      exact ⟨(v, c), by simp only [spec_l4Bend.step, h, decide_false, cond_false, he], hv, hc⟩

def bendTail (S1 : Cu × Int → Option (Int × Cu)) (S2 : Cu × List ByteArray → Option (ByteArray × Cu)) (S3 : Cu → Option (ByteArray × Cu)) (rec : spec_l4Bend.L → Option (GVal × Cu)) (y0 : GVal × Unit) (c : Cu) : Option (GVal × Cu) :=
  (S1 ((c.1, (c.2.1, c.2.2)), 6)).bind fun y1 =>
  bif (y1.1 == 0) then (
    (S1 ((y1.2.1, (y1.2.2.1, y1.2.2.2)), 7)).bind fun y4 =>
    some ((GVal.mk y4.1 y0.1.text y0.1.num y0.1.keys y0.1.kids), (y4.2.1, (y4.2.2.1, y4.2.2.2)))) else
  bif (y1.1 == 1) then (
    (S2 ((y1.2.1, (y1.2.2.1, y1.2.2.2)), ((bs [97]) :: ((bs [10]) :: [(bs [127])])))).bind fun y3 =>
    some ((GVal.mk y0.1.kind y3.1 y0.1.num y0.1.keys y0.1.kids), (y3.2.1, (y3.2.2.1, y3.2.2.2)))) else
  bif (y1.1 == 2) then (
    some ((GVal.mk y0.1.kind y0.1.text (IntKind.wrap .i64 (y0.1.num + 1)) y0.1.keys y0.1.kids), (y1.2.1, (y1.2.2.1, y1.2.2.2)))) else
  bif (y1.1 == 3) then (
    (S3 (y1.2.1, (y1.2.2.1, y1.2.2.2))).bind fun y2 =>
    bif (decide ((((List.length y0.1.keys) + (List.length (y2.1 :: []))) * 16) ≤ 140737488355328)) then
    some ((GVal.mk y0.1.kind y0.1.text y0.1.num (y0.1.keys ++ (y2.1 :: [])) y0.1.kids), (y2.2.1, (y2.2.2.1, y2.2.2.2))) else none) else
  bif (y1.1 == 4) then (
    bif (decide ((((List.length y0.1.kids) + 1) * 80) ≤ 140737488355328)) then
    some ((GVal.mk y0.1.kind y0.1.text y0.1.num y0.1.keys (y0.1.kids ++ [(GVal.mk 2 (bs []) 0 [] [])])), (y1.2.1, (y1.2.2.1, y1.2.2.2))) else none) else
  bif (y1.1 == 5) then (
    rec (.L0 0 y1.2.1 y1.2.2.1 y1.2.2.2 0 (bs []) 0 y0.1.kind y0.1.text y0.1.num y0.1.keys y0.1.kids)) else
  some ((re y0.1), (y1.2.1, (y1.2.2.1, y1.2.2.2)))

theorem bendTail_ok (h1 : ∀ c n, Cur c → ∃ y, S1 (c, n) = some y ∧ QB n y) (h2 : ∀ c l, Cur c → l ≠ [] → ∃ y, S2 (c, l) = some y ∧ Cur y.2 ∧ y.1 ∈ l) (h3 : ∀ c, Cur c → ∃ y, S3 c = some y ∧ Cur y.2 ∧ y.1.size ≤ 30)
    (v : GVal) (hv : FV 1000 v) (c : Cu) (hc : Cur c) : ∃ y, bendTail S1 S2 S3 (go (spec_l4Bend.step S0 SB S1 S2 SC S3) 10) (v, ()) c = some y ∧ QN y := by
  obtain ⟨p1, p2, p3, p4, p5, p6⟩ := hv.parts
  have hv1 : FV 1001 v := hv.wide (by omega)
  obtain ⟨q1, q2, q3, q4, q5, q6⟩ := hv1.parts
  obtain ⟨⟨m, c1⟩, e1, hc1, r1, r2, _⟩ := h1 c 6 hc
  simp only at hc1 r1 r2
  have r2 := r2 (by omega)
  unfold bendTail
  have e1 : S1 ((c.1, c.2.1, c.2.2), 6) = some (m, c1) := e1
  rw [e1, Option.bind_some]
  have : m = 0 ∨ m = 1 ∨ m = 2 ∨ m = 3 ∨ m = 4 ∨ m = 5 := by omega
  rcases this with rfl | rfl | rfl | rfl | rfl | rfl
  · obtain ⟨⟨k, c2⟩, e2, hc2, _⟩ := h1 c1 7 hc1
    have e2 : S1 ((c1.1, c1.2.1, c1.2.2), 7) = some (k, c2) := e2
    exact ⟨(⟨k, v.text, v.num, v.keys, v.kids⟩, c2), by simp [e2], FV.mk q1 q2 q3 q4 q5 q6, hc2⟩
  · obtain ⟨⟨t, c2⟩, e2, hc2, hm⟩ := h2 c1 [bs [97], bs [10], bs [127]] hc1 (by simp)
    have e2 : S2 ((c1.1, c1.2.1, c1.2.2), [bs [97], bs [10], bs [127]]) = some (t, c2) := e2
    have hsz : ∀ s ∈ [bs [97], bs [10], bs [127]], s.size ≤ 1001 := by decide
    exact ⟨(⟨v.kind, t, v.num, v.keys, v.kids⟩, c2), by simp [e2], FV.mk (hsz t hm) q2 q3 q4 q5 q6, hc2⟩
  · exact ⟨(⟨v.kind, v.text, IntKind.wrap .i64 (v.num + 1), v.keys, v.kids⟩, c1), by simp, FV.mk q1 q2 q3 q4 (in64_wrap _) q6, hc1⟩
  · obtain ⟨⟨t, c2⟩, e2, hc2, hm⟩ := h3 c1 hc1
    have e2 : S3 (c1.1, c1.2.1, c1.2.2) = some (t, c2) := e2
    have cap : (v.keys.length + (t :: []).length) * 16 ≤ 140737488355328 := by simp only [List.length_cons, List.length_nil]; omega
    refine ⟨(⟨v.kind, v.text, v.num, v.keys ++ [t], v.kids⟩, c2), ?_, FV.mk q1 (by simp only [List.length_append, List.length_cons, List.length_nil]; omega) (fun k hk => ?_) q4 q5 q6, hc2⟩
    · simp only [show ((3 : Int) == 0) = false from rfl, show ((3 : Int) == 1) = false from rfl, show ((3 : Int) == 2) = false from rfl, show ((3 : Int) == 3) = true from rfl, cond_false, cond_true, e2, Option.bind_some, cap, decide_true]
    · rcases List.mem_append.1 hk with h | h
      · exact q3 k h
      · rw [List.mem_singleton.1 h]
        have hm : t.size ≤ 30 := hm
        omega
  · have cap : (v.kids.length + 1) * 80 ≤ 140737488355328 := by omega
    refine ⟨(⟨v.kind, v.text, v.num, v.keys, v.kids ++ [⟨2, bs [], 0, [], []⟩]⟩, c1), ?_, FV.mk q1 q2 q3 (by simp only [List.length_append, List.length_cons, List.length_nil]; omega) q5 (fun k hk => ?_), hc1⟩
    · simp only [show ((4 : Int) == 0) = false from rfl, show ((4 : Int) == 1) = false from rfl, show ((4 : Int) == 2) = false from rfl, show ((4 : Int) == 3) = false from rfl, show ((4 : Int) == 4) = true from rfl, cond_false, cond_true, cap, decide_true]
    · rcases List.mem_append.1 hk with h | h
      · exact q6 k h
      · rw [List.mem_singleton.1 h]
        exact FV.mk (by decide) (by simp) (by simp) (by simp) (by decide) (by simp)
  · obtain ⟨y, hy, e⟩ := bend_loop (S0 := S0) (SB := SB) (S1 := S1) (S2 := S2) (SC := SC) (S3 := S3) 10 0 c1 v 0 (bs []) 0 (by omega) (by omega) hc1 hv1
    exact ⟨y, by rw [← hy]; rfl, e⟩

theorem bend_body (h0 : ∀ c n, Cur c → ∃ y, S0 (c, n) = some y ∧ Cur y.2) (h1 : ∀ c n, Cur c → ∃ y, S1 (c, n) = some y ∧ QB n y) (h2 : ∀ c l, Cur c → l ≠ [] → ∃ y, S2 (c, l) = some y ∧ Cur y.2 ∧ y.1 ∈ l) (h3 : ∀ c, Cur c → ∃ y, S3 c = some y ∧ Cur y.2 ∧ y.1.size ≤ 30)
    (v : GVal) (hv : FV 1000 v) (hC : SC v = some (v, ())) (hB : ∀ k ∈ v.kids, ∀ c, Cur c → ∃ y, SB (c, k) = some y ∧ QN y) (b : List Int) (i h : Int) (hc : Cur (b, (i, h))) :
    ∃ y, spec_l4Bend.body S0 SB S1 S2 SC S3 (go (spec_l4Bend.step S0 SB S1 S2 SC S3) 10) b i h v = some y ∧ QN y := by
  have hv1 : FV 1001 v := hv.wide (by omega)
  obtain ⟨q1, q2, q3, q4, q5, q6⟩ := hv1.parts
  unfold spec_l4Bend.body
  rw [re_eq, hC, Option.bind_some]
  by_cases hk : (0 : Int) < (v.kids.length : Int)
  · rw [decide_eq_true hk, cond_true]
    obtain ⟨⟨o, c1⟩, e1, hc1⟩ := h0 (b, (i, h)) 2 hc
    rw [e1, Option.bind_some]
    cases o with
    | true =>
      rw [cond_true]
      obtain ⟨⟨m, c2⟩, e2, hc2, r1, r2, _⟩ := h1 c1 (v.kids.length : Int) hc1
      simp only at hc2 r1 r2
      have r2 := r2 hk
      have hlt : m.toNat < v.kids.length := by omega
      obtain ⟨⟨w, c3⟩, e3, hw, hc3⟩ := hB _ (List.getElem_mem hlt) c2 hc2
      have e2 : S1 ((c1.1, c1.2.1, c1.2.2), (v.kids.length : Int)) = some (m, c2) := e2
      have e3 : SB ((c2.1, c2.2.1, c2.2.2), v.kids[m.toNat]) = some (w, c3) := e3
      refine ⟨(⟨v.kind, v.text, v.num, v.keys, v.kids.set m.toNat w⟩, c3), ?_, FV.mk q1 q2 q3 (by simpa using q4) q5 (fun k hk => ?_), hc3⟩
      · simp only [e2, Option.bind_some, r1, r2, decide_true, cond_true, re_eq, getD_at hlt, e3]
      · rcases List.mem_or_eq_of_mem_set hk with h | h
        · exact q6 k h
        · rw [h]; exact hw
    | false =>
      rw [cond_false]
      exact bendTail_ok h1 h2 h3 v hv c1 hc1
  · rw [decide_eq_false hk, cond_false]
    exact bendTail_ok h1 h2 h3 v hv (b, (i, h)) hc
end
theorem has_l4Bend : Has Tryd.prog 35 sg_spec_l4Bend (fun x => Cur x.1 ∧ FV 1000 x.2) (fun _ y => QN y) := by
  obtain ⟨S0, hc0, hS0⟩ := has_l1Once
  obtain ⟨S1, hc1, hS1⟩ := has_l1Below
  obtain ⟨S2, hc2, hS2⟩ := has_l1Str
  obtain ⟨SC, hcC, hSC⟩ := has_l4CopyO
  obtain ⟨S3, hc3, hS3⟩ := has_l1NameAny
  refine (Has.recN (sg := sg_spec_l4Bend) (Pre := fun k x => Cur x.1 ∧ BV 1000 k x.2) (fun _ h => h.2) fun k S hc hS => ?_).mono (fun x ⟨h0, k, h1⟩ => ⟨k, h0, h1⟩) fun _ _ _ h => h
  refine Has.of_go (spec_l4Bend.con S0 S S1 S2 SC S3 hc0 hc hc1 hc2 hcC hc3) fun ((b, (i, h)), v) ⟨hcur, hv⟩ => ?_
  obtain ⟨y, hy, e⟩ := bend_body (S0 := S0) (SB := S) (S1 := S1) (S2 := S2) (SC := SC) (S3 := S3) (fun c n hc => hS0 (c, n) hc) (fun c n hc => hS1 (c, n) hc) (fun c l hc hl => hS2 (c, l) ⟨hc, hl⟩) hS3 v ⟨_, hv⟩ (hSC.eq (FV.wide ⟨_, hv⟩ (by omega)))
    (fun q hq c hc => hS (c, q) ⟨hc, hv.2.2.2.2.2 q hq⟩) b i h hcur
  exact ⟨10, y, hy, e⟩

theorem any_loop {S0 : Cu × Int → Option (GVal × Cu)} {S1 : Cu × Int → Option (Bool × Cu)} {S2 : Cu × GVal → Option (GVal × Cu)} {S3 : Cu × Int → Option (Int × Cu)} (h3 : ∀ c n, Cur c → ∃ y, S3 (c, n) = some y ∧ QB n y) (z1 : Int) (z2 : ByteArray) (z3 k : Int) :
    ∀ (n i : Nat) (kids : List GVal) (c : Cu), i ≤ 300 → 300 - i < n → kids.length = i → (∀ q ∈ kids, FV 1001 q) → Cur c → ∃ y, go (spec_l4DrawAny.step S0 S1 S2 S3) n (.L0 (i : Int) c.1 c.2.1 c.2.2 z1 z2 z3 k (bs []) 0 kids) = some y ∧ QN y := by
  intro n
  induction n with
  | zero => intro i _ _ _ h; omega
  | succ n ih =>
    intro i kids c hi hn hl hk hc
    show ∃ y, spec_l4DrawAny.step S0 S1 S2 S3 (go (spec_l4DrawAny.step S0 S1 S2 S3) n) _ = _ ∧ _
    obtain ⟨⟨m, c1⟩, e1, hc1, r1, r2, _⟩ := h3 c 2 hc
    simp only at hc1 r1 r2
    have r2 := r2 (by omega)
    have e1 : S3 ((c.1, c.2.1, c.2.2), 2) = some (m, c1) := e1
    have hw : IntKind.wrap .i64 (299 + m) = 299 + m := w64 (by omega) (by omega)
    by_cases h : (i : Int) < 299 + m
    · have cap : (kids.length + 1) * 80 ≤ 140737488355328 := by omega
      have hw2 : IntKind.wrap .i64 ((i : Int) + 1) = ((i + 1 : Nat) : Int) := by rw [w64 (by omega) (by omega)]; omega
      obtain ⟨y, hy, e⟩ := ih (i + 1) (kids ++ [⟨3, bs [], 0, [], []⟩]) c1 (by omega) (by omega) (by simp; omega) (fun q hq => by
        rcases List.mem_append.1 hq with h | h
        · exact hk q h
        · rw [List.mem_singleton.1 h]
          exact FV.mk (by decide) (by simp) (by simp) (by simp) (by decide) (by simp)) hc1
      exact ⟨y, by rw [← hy]; simp only [spec_l4DrawAny.step, e1, Option.bind_some, hw, h, decide_true, cond_true, cap, hw2], e⟩
    · exact ⟨(⟨k, bs [], 0, [], kids⟩, c1), by simp only [spec_l4DrawAny.step, e1, Option.bind_some, hw, h, decide_false, cond_false], FV.mk (by simp only; decide) (by simp) (by simp) (by simp only; omega) (by simp only; decide) hk, hc1⟩

theorem any_body {S0 : Cu × Int → Option (GVal × Cu)} {S1 : Cu × Int → Option (Bool × Cu)} {S2 : Cu × GVal → Option (GVal × Cu)} {S3 : Cu × Int → Option (Int × Cu)} (h0 : ∀ c, Cur c → ∃ y, S0 (c, 4) = some y ∧ QD y) (h1 : ∀ c n, Cur c → ∃ y, S1 (c, n) = some y ∧ Cur y.2)
    (h2 : ∀ c v, Cur c → FV 1000 v → ∃ y, S2 (c, v) = some y ∧ QN y) (h3 : ∀ c n, Cur c → ∃ y, S3 (c, n) = some y ∧ QB n y) (b : List Int) (i h : Int) (hc : Cur (b, (i, h))) :
    ∃ y, spec_l4DrawAny.body S0 S1 S2 S3 (go (spec_l4DrawAny.step S0 S1 S2 S3) 302) b i h = some y ∧ QN y := by
  have wide : ∀ c, Cur c → ∃ y, go (spec_l4DrawAny.step S0 S1 S2 S3) 302 (.L0 0 c.1 c.2.1 c.2.2 0 (bs []) 0 4 (bs []) 0 []) = some y ∧ QN y := fun c hc => any_loop h3 0 (bs []) 0 4 302 0 [] c (by omega) (by omega) rfl (by simp) hc
  obtain ⟨⟨v, c1⟩, e1, hv, hc1⟩ := h0 (b, (i, h)) hc
  obtain ⟨⟨o, c2⟩, e2, hc2⟩ := h1 c1 5 hc1
  unfold spec_l4DrawAny.body
  have e2 : S1 ((c1.1, c1.2.1, c1.2.2), 5) = some (o, c2) := e2
  rw [e1, Option.bind_some, e2, Option.bind_some]
  cases o with
  | true =>
    rw [cond_true]
    obtain ⟨⟨w, c3⟩, e3, hw, hc3⟩ := h2 c2 v hc2 hv
    obtain ⟨⟨o2, c4⟩, e4, hc4⟩ := h1 c3 40 hc3
    have e3 : S2 ((c2.1, c2.2.1, c2.2.2), v) = some (w, c3) := e3
    have e4 : S1 ((c3.1, c3.2.1, c3.2.2), 40) = some (o2, c4) := e4
    rw [re_eq, e3, Option.bind_some, e4, Option.bind_some]
    cases o2 with
    | true => exact wide c4 hc4
    | false => exact ⟨(w, c4), by simp only [cond_false, re_eq], hw, hc4⟩
  | false =>
    rw [cond_false]
    obtain ⟨⟨o2, c4⟩, e4, hc4⟩ := h1 c2 40 hc2
    have e4 : S1 ((c2.1, c2.2.1, c2.2.2), 40) = some (o2, c4) := e4
    rw [e4, Option.bind_some]
    cases o2 with
    | true => exact wide c4 hc4
    | false => exact ⟨(v, c4), by simp only [cond_false, re_eq], hv.wide (by omega), hc4⟩
theorem has_l4DrawAny : Has Tryd.prog 18 sg_spec_l4DrawAny Cur (fun _ y => QN y) := by
  obtain ⟨S0, hc0, hS0⟩ := has_l4Draw
  obtain ⟨S1, hc1, hS1⟩ := has_l1Once
  obtain ⟨S2, hc2, hS2⟩ := has_l4Bend
  obtain ⟨S3, hc3, hS3⟩ := has_l1Below
  refine Has.of_go (spec_l4DrawAny.con S0 S1 S2 S3 hc0 hc1 hc2 hc3) fun (b, (i, h)) hcur => ?_
  obtain ⟨y, hy, e⟩ := any_body (S0 := S0) (S1 := S1) (S2 := S2) (S3 := S3) (fun c hc => hS0 (c, 4) ⟨hc, 4, rfl, by omega⟩) (fun c n hc => hS1 (c, n) hc) (fun c v hc hv => hS2 (c, v) ⟨hc, hv⟩) (fun c n hc => hS3 (c, n) hc) b i h hcur
  exact ⟨302, y, hy, e⟩
theorem has_DrawValueText : Has Tryd.prog 6 sg_spec_DrawValueText (fun b => b.length ≤ 1048576) (fun _ y => FV 1001 y.1) := by
  obtain ⟨S0, hc0, hS0⟩ := has_l1New
  obtain ⟨S1, hc1, hS1⟩ := has_l4DrawAny
  have key : ∀ {S0 : List Int → Option (Cu × Unit)} {S1 : Cu → Option (GVal × Cu)} (b : List Int), (∃ y, S0 b = some y ∧ Cur y.1) → (∀ c, Cur c → ∃ y, S1 c = some y ∧ QN y) → ∃ y, spec_DrawValueText.body S0 S1 b = some y ∧ FV 1001 y.1 := by
    intro S0 S1 b h0 h1
    obtain ⟨⟨c, u⟩, e0, hc⟩ := h0
    obtain ⟨⟨v, c2⟩, e1, hv, _⟩ := h1 c hc
    have e1 : S1 (c.1, c.2.1, c.2.2) = some (v, c2) := e1
    exact ⟨(v, ()), by simp only [spec_DrawValueText.body, e0, e1, Option.bind_some, re_eq], hv⟩
  exact Has.of (spec_DrawValueText.con S0 S1 hc0 hc1) fun b hb => key b (hS0 b hb) hS1
end Go.Proofs.YtgbfelpdlekbkaaDoor
end

/- FnValues. -/
section
namespace Go.Lin
theorem vsize_up {d : Nat} {v : GVal} (h : 0 < vsize d v) : vsize (d + 1) v = vsize d v := by
  induction d generalizing v with
  | zero => simp [vsize] at h
  | succ d ih =>
    obtain ⟨hs, he, hk, hl⟩ := vsize_pos h
    have hm : v.kids.map (vsize (d + 1)) = v.kids.map (vsize d) := List.map_congr_left fun k hk' => ih (hk k hk')
    have key : ∀ (l : List GVal) (n : Nat), (∀ k ∈ l, vsize (d + 1) k = vsize d k) → sumK (vsize (d + 1)) l n = sumK (vsize d) l n := by
      intro l
      induction l with
      | nil => intro n _; rfl
      | cons k l ihl =>
        intro n hkk
        unfold sumK
        rw [hkk k (by simp), ihl _ fun q hq => hkk q (by simp [hq])]
    have h1 := key v.kids 1 fun k hk' => ih (hk k hk')
    unfold vsize
    rw [if_pos hs, if_pos hs, h1]
end Go.Lin
namespace Go.Proofs.YtgbfelpdlekbkaaDoor
open Go Go.Proofs Go.Lin Go.RowKit

theorem law_loop {S0 : List Int → Option (Bool × Unit)} {S1 : List Int → Option (GVal × Unit)} {S2 : GVal → Option (ByteArray × Unit)} {S3 S4 : GVal → Option (Bool × Unit)} {S5 : GVal → Option (Int × Unit)} {S6 : ByteArray → Option ((GVal × Bool) × Unit)} {S7 : GVal × GVal → Option (Bool × Unit)}
    (v : GVal) (h5 : ∀ k ∈ v.kids, S5 k = some ((vsize 6 k : Int), ())) (h5v : S5 v = some ((vsize 6 v : Int), ())) (h4 : S4 v = some (true, ())) (h7 : S7 (v, v) = some (true, ())) (hl : v.kids.length ≤ 300) (hsum : vsize 6 v = 1 + (v.kids.map (vsize 6)).sum) :
    ∀ (n i a : Nat), i ≤ v.kids.length → v.kids.length - i < n → a + ((v.kids.drop i).map (vsize 6)).sum = vsize 6 v →
      go (laws_FnValues.step S0 S1 S2 S3 S4 S5 S6 S7) n (.L0 true (a : Int) (i : Int) v.kind v.text v.num v.keys v.kids v.kind v.text v.num v.keys v.kids) = some (true, ()) := by
  have hle := vsize_le 6 v
  have he : GVal.mk v.kind v.text v.num v.keys v.kids = v := re_eq v
  intro n
  induction n with
  | zero => intro i _ _ h; omega
  | succ n ih =>
    intro i a hi hn ha
    show laws_FnValues.step S0 S1 S2 S3 S4 S5 S6 S7 (go (laws_FnValues.step S0 S1 S2 S3 S4 S5 S6 S7) n) _ = _
    rcases Nat.lt_or_ge i v.kids.length with hlt | hge
    · have h0 : (0 : Int) ≤ (i : Int) := by omega
      have hlt' : (i : Int) < (v.kids.length : Int) := by omega
      rw [drop_cons hlt, List.map_cons, List.sum_cons] at ha
      have hw : IntKind.wrap .i64 ((a : Int) + (vsize 6 v.kids[i] : Int)) = ((a + vsize 6 v.kids[i] : Nat) : Int) := by rw [w64 (by omega) (by omega)]; omega
      have ih' := ih (i + 1) (a + vsize 6 v.kids[i]) (by omega) (by omega) (by omega)
      have hw2 : IntKind.wrap .i64 ((i : Int) + 1) = ((i + 1 : Nat) : Int) := by rw [w64 (by omega) (by omega)]; omega
      simp only [laws_FnValues.step, re_eq, hlt', h0, decide_true, cond_true, Int.toNat_natCast, getD_at hlt, h5 _ (List.getElem_mem hlt), Option.bind_some, hw, hw2, ih']
    · obtain rfl : i = v.kids.length := by omega
      have hlt' : ¬ (v.kids.length : Int) < (v.kids.length : Int) := by omega
      rw [List.drop_length] at ha
      have ha : a = vsize 6 v := by simpa using ha
      simp only [laws_FnValues.step, hlt', decide_false, cond_false, cond_true, he, h7, h5v, h4, Option.bind_some, ha, beq_self_eq_true]

theorem law_body {S0 : List Int → Option (Bool × Unit)} {S1 : List Int → Option (GVal × Unit)} {S2 : GVal → Option (ByteArray × Unit)} {S3 S4 : GVal → Option (Bool × Unit)} {S5 : GVal → Option (Int × Unit)} {S6 : ByteArray → Option ((GVal × Bool) × Unit)} {S7 : GVal × GVal → Option (Bool × Unit)} (b : List Int)
    (h0 : S0 b = some (decide (1048576 < (b.length : Int)), ())) (h1 : b.length ≤ 1048576 → ∃ y, S1 b = some y ∧ FV 1001 y.1) (h2 : ∀ v, Fine v → ∃ y, S2 v = some y ∧ by_ y.1 = if okV v then txt 6 v else []) (h3 : ∀ v, Fine v → S3 v = some (okV v, ())) (h4 : ∀ v, Fine v → S4 v = some (okV v, ()))
    (h5 : ∀ v, Fine v → S5 v = some ((vsize 6 v : Int), ())) (h6 : ∀ s v, Fine v → 0 < vsize 6 v → by_ s = txt 6 v → S6 s = some ((v, true), ())) (h7 : ∀ v, Fine v → S7 (v, v) = some (true, ())) :
    laws_FnValues.body S0 S1 S2 S3 S4 S5 S6 S7 (go (laws_FnValues.step S0 S1 S2 S3 S4 S5 S6 S7) 302) b = some (true, ()) := by
  unfold laws_FnValues.body
  rw [h0, Option.bind_some]
  by_cases hb : (1048576 : Int) < (b.length : Int)
  · rw [decide_eq_true hb]; rfl
  · rw [decide_eq_false hb]
    obtain ⟨⟨v, u⟩, e1, hv⟩ := h1 (by omega)
    have hv : Fine v := FV.fine (N := 1001) (by omega) hv
    obtain ⟨⟨t, u2⟩, e2, ht⟩ := h2 v hv
    have ht : by_ t = if okV v then txt 6 v else [] := ht
    simp only [cond_false, e1, Option.bind_some, re_eq, e2, h3 v hv]
    cases ho : okV v with
    | false =>
      rw [ho, if_neg (by simp)] at ht
      have q : seq_ t (bs []) = true := by rw [seq_eq]; exact decide_eq_true (by_inj ht)
      have hz : vsize 6 v = 0 := by
        have : ¬ 0 < vsize 6 v := by simpa [okV] using ho
        omega
      simp only [Bool.not_false, cond_true, q, h4 v hv, ho, Option.bind_some, h5 v hv, hz]
      rfl
    | true =>
      rw [ho, if_pos rfl] at ht
      have hz : 0 < vsize 6 v := by simpa [okV] using ho
      obtain ⟨hs, hsum, hk, hl⟩ := vsize_pos hz
      have hm : v.kids.map (vsize 6) = v.kids.map (vsize 5) := List.map_congr_left fun k hk' => vsize_up (hk k hk')
      have hsum' : vsize 6 v = 1 + (v.kids.map (vsize 6)).sum := by rw [hm]; exact hsum
      simp only [Bool.not_true, cond_false, h6 t v hv hz ht, Option.bind_some]
      have h4v := h4 v hv
      rw [ho] at h4v
      exact law_loop v (fun k hk' => h5 k (hv.parts.2.2.2.2 k hk')) (h5 v hv) h4v (h7 v hv) (by omega) hsum' 302 0 1 (by omega) (by omega) (by rw [List.drop_zero]; exact hsum'.symm)

theorem has_big : Has Tryd.prog 5 sg_laws_big (fun _ => True) (fun b y => y = (decide (1048576 < ((List.length b : Nat) : Int)), ())) := Has.of laws_big.con fun _ _ => ⟨_, rfl, rfl⟩
theorem has_law : Has Tryd.prog 3 sg_laws_FnValues (fun _ => True) (fun _ y => y = (true, ())) := by
  obtain ⟨S0, hc0, hS0⟩ := has_big
  obtain ⟨S1, hc1, hS1⟩ := has_DrawValueText
  obtain ⟨S2, hc2, hS2⟩ := has_ValueText
  obtain ⟨S3, hc3, hS3⟩ := has_spec_ValueOk
  obtain ⟨S4, hc4, hS4⟩ := has_impl_ValueOk
  obtain ⟨S5, hc5, hS5⟩ := has_SizeOf
  obtain ⟨S6, hc6, hS6⟩ := has_ParseValue
  obtain ⟨S7, hc7, hS7⟩ := has_Same
  refine Has.of_go (laws_FnValues.con S0 S1 S2 S3 S4 S5 S6 S7 hc0 hc1 hc2 hc3 hc4 hc5 hc6 hc7) fun b _ => ⟨302, (true, ()), ?_, rfl⟩
  refine law_body (S0 := S0) (S1 := S1) (S2 := S2) (S3 := S3) (S4 := S4) (S5 := S5) (S6 := S6) (S7 := S7) b (hS0.eq trivial) (fun h => hS1 b h) hS2 (fun v hv => hS3.eq hv) (fun v hv => hS4.eq hv) (fun v hv => hS5.eq hv) (fun s v hv hz hs => ?_) fun v hv => ?_
  · obtain ⟨y, hy, e⟩ := hS6 s ⟨v, hv, hz, hs⟩
    exact hy.trans (congrArg some (e v hv hz hs))
  · obtain ⟨⟨y, u⟩, hy, e⟩ := hS7 (v, v) hv
    have : y = true := e.2 rfl
    rw [this] at hy
    exact hy
end Go.Proofs.YtgbfelpdlekbkaaDoor
end
