/- Freezing a row; looking at cells; storing into them. -/
import Derived.Test.YtgbfelpdlekbkaaDoorEv1
import Derived.Laws.MakeOwn
set_option linter.unusedVariables false
set_option linter.unusedSimpArgs false
section
namespace Go.Lin

variable {F F' F'' : Fz} {w w' : World} {m m' : Nat → Value} {bs bs' bs'' : List Box} {O : Nat → Prop} {σ : St} {a : Act}

theorem flat_get [Base] {sz : Nat} : ∀ {cs : List (List Value)} {j i : Nat} {c : List Value} {u : Value}, (∀ c ∈ cs, c.length = sz) → cs[j]? = some c → c[i]? = some u → cs.flatten[j * sz + i]? = some u
  | [], _, _, _, _, _, h, _ => by simp at h
  | d :: cs, 0, i, c, u, hl, h, hi => by
    simp at h
    subst h
    rw [List.flatten_cons, Nat.zero_mul, Nat.zero_add, List.getElem?_append_left (get_lt hi)]
    exact hi
  | d :: cs, j + 1, i, c, u, hl, h, hi => by
    have h1 : d.length = sz := hl d (by simp)
    rw [List.flatten_cons, List.getElem?_append_right (by rw [h1, Nat.succ_mul]; omega), h1]
    have : (j + 1) * sz + i - sz = j * sz + i := by rw [Nat.succ_mul]; omega
    rw [this]
    exact flat_get (fun c hc => hl c (by simp [hc])) (by simpa using h) hi
theorem flat_len {sz : Nat} {cs : List (List Value)} (hl : ∀ c ∈ cs, c.length = sz) : cs.flatten.length = cs.length * sz := by
  induction cs with
  | nil => simp
  | cons c cs ih =>
    rw [List.flatten_cons, List.length_append, ih fun d hd => hl d (by simp [hd]), hl c (by simp), List.length_cons, Nat.succ_mul]
    omega
theorem Reps.lens [Base] {t : Ty} {l : List t.D} {cs : List (List Value)} (h : All2 (Rep F w t) l cs) : ∀ c ∈ cs, c.length = t.size := by
  induction h with
  | nil => simp
  | cons h _ ih =>
    intro c hc
    rcases List.mem_cons.1 hc with rfl | hc
    · exact h.len
    · exact ih c hc
theorem Reps.at_ [Base] {t : Ty} {l : List t.D} {xs : List Value} (h : Reps F w t l xs) {j : Nat} (hj : j < l.length) : ∃ c, Rep F w t (l[j]'hj) c ∧ ∀ (i : Nat) u, c[i]? = some u → xs[j * t.size + i]? = some u := by
  obtain ⟨cs, rfl, hh⟩ := h
  obtain ⟨c, hc, hr⟩ := hh.get j _ (List.getElem?_eq_getElem hj)
  exact ⟨c, hr, fun i u hu => flat_get (Reps.lens hh) hc hu⟩
theorem Reps.length [Base] {t : Ty} {l : List t.D} {xs : List Value} (h : Reps F w t l xs) : xs.length = l.length * t.size := by
  obtain ⟨cs, rfl, hh⟩ := h
  rw [flat_len (Reps.lens hh), ← hh.length]

/-- What a row's header and cells are. -/
theorem row_cells [Base] {b : Nat} {e : TypeId} {t : Ty} {l : List t.D} (h : RB F w m bs b (.row e t l)) : ∃ A c, m b = .slice A l.length c ∧ l.length ≤ c ∧ c ≤ maxLen ∧
    (0 < l.length → ∃ g, A = some ⟨g, 0, none⟩ ∧ blk (m b) = some g ∧ ∀ j (hj : j < l.length), ∃ cs, Rep F w t (l[j]'hj) cs ∧ ∀ (i : Nat) u, cs[i]? = some u → w.cell? ((⟨g, 0, none⟩ : Addr).add (j * t.size + i)) = some u) := by
  obtain ⟨xs, ho, hr, hf⟩ := h
  rcases ho.2 with ⟨hv, hn⟩ | ⟨g, cap, cur, hv, _, hg, hnc, hcm, hsz, htake⟩
  · refine ⟨none, 0, ?_, by omega, by simp [maxLen], fun h0 => by omega⟩
    rw [hv, hn]
  · refine ⟨some ⟨g, 0, none⟩, cap, hv, hnc, hcm, fun _ => ⟨g, rfl, by rw [hv]; rfl, fun j hj => ?_⟩⟩
    obtain ⟨c, hc, hx⟩ := hr.at_ hj
    exact ⟨c, hc, fun i u hu => ho.cells (g := g) (by rw [hv]; rfl) _ u (hx i u hu)⟩

theorem choose_fn {n : Nat} {α : Type} {Q : ∀ j, j < n → α → Prop} (d : α) (h : ∀ j (hj : j < n), ∃ x, Q j hj x) : ∃ f : Nat → α, ∀ j (hj : j < n), Q j hj (f j) := by
  refine ⟨fun j => if hj : j < n then Classical.choose (h j hj) else d, fun j hj => ?_⟩
  simp only [hj, dif_pos]
  exact Classical.choose_spec (h j hj)

/-- A row that is written no more reads as a slice that came in. -/
theorem row_rep [Base] {b : Nat} {e : TypeId} {t : Ty} {l : List t.D} (h : RB F w m bs b (.row e t l)) (hF : ∀ g, F g → F' g) (hb : ∀ g, blk (m b) = some g → F' g) : Rep F' w (.slice e t) l [m b] := by
  obtain ⟨A, c, hv, hc, hm, hcells⟩ := row_cells h
  rw [hv]
  by_cases h0 : 0 < l.length
  · obtain ⟨g, rfl, hg, hel⟩ := hcells h0
    obtain ⟨cs, hcs⟩ := choose_fn [] hel
    exact .slice ⟨g, 0, none⟩ cs hc hm (fun _ => ⟨rfl, hb g hg⟩) (fun j hj => (hcs j hj).1.mono hF fun _ _ => rfl) fun j hj i u hu => (hcs j hj).2 i u hu
  · exact .slice ⟨0, 0, none⟩ (fun _ => []) hc hm (fun h => absurd h h0) (fun j hj => by omega) (fun j hj => by omega)

/-- What a freeze leaves. -/
structure Froze [Base] (O : Nat → Prop) (F F' : Fz) (m : Nat → Value) (σ : St) (bs' : List Box) (a : Act) (w : World) : Prop where
  rel : Rel O F' m ⟨σ.slots, bs'⟩ a w
  fz : ∀ g, F g → F' g
  fz' : ∀ g, F' g → F g ∨ O g
  later : Later F F' w w m m σ.boxes bs'
theorem Froze.refl [Base] (h : Rel O F m σ a w) : Froze O F F m σ σ.boxes a w := ⟨h, fun _ h => h, fun _ h => .inl h, .refl⟩
theorem Later.trans [Base] {w1 w2 w3 : World} {m1 m2 m3 : Nat → Value} {b1 b2 b3 : List Box} (h : Later F F' w1 w2 m1 m2 b1 b2) (k : Later F' F'' w2 w3 m2 m3 b2 b3) : Later F F'' w1 w3 m1 m3 b1 b3 :=
  ⟨fun g hg => k.fz g (h.fz g hg), fun g hg => (k.blk g (h.fz g hg)).trans (h.blk g hg), Nat.le_trans h.len k.len, fun b hb => Box.le_trans (h.le b hb) (k.le b (Nat.lt_of_lt_of_le hb h.len)),
    fun b hb => (k.hd b (Nat.lt_of_lt_of_le hb h.len)).trans (h.hd b hb)⟩
theorem Froze.trans [Base] (h : Froze O F F' m σ bs' a w) (k : Froze O F' F'' m ⟨σ.slots, bs'⟩ bs'' a w) : Froze O F F'' m σ bs'' a w :=
  ⟨k.rel, fun g hg => k.fz g (h.fz g hg), fun g hg => by
    rcases k.fz' g hg with hg | hg
    · exact h.fz' g hg
    · exact .inr hg, h.later.trans k.later⟩

theorem frz_sound [Base] (h : Rel O F m σ a w) {v : V} {c : Value} (hv : RL F w m σ.boxes v c) : ∃ F', Froze O F F' m σ (frz σ.boxes v).2 a w ∧ RL F' w m (frz σ.boxes v).2 (frz σ.boxes v).1 c := by
  cases v with
  | own b =>
    obtain ⟨hb, rfl⟩ := hv
    have hget : σ.boxes[b]? = some (σ.boxes.getD b .dead) := by simp [List.getD_eq_getElem?_getD, hb]
    simp only [frz]
    revert hget
    generalize σ.boxes.getD b .dead = x
    intro hget
    cases x with
    | row e t l =>
      have hrow := h.boxes.box b _ hget
      let F' : Fz := fun g => F g ∨ blk (m b) = some g
      have hrep : Rep F' w (.slice e t) l [m b] := row_rep hrow (fun g hg => .inl hg) (fun g hg => .inr hg)
      have hle : Box.le (.row e t l) (.frow e t l) := ⟨rfl, rfl⟩
      refine ⟨F', ⟨h.set (x' := .frow e t l) hget hle rfl (Nat.le_refl _) (fun g hg => .inl hg) (fun g hg => hg) (fun _ _ _ => rfl) hrep, fun g hg => .inl hg, fun g hg => ?_,
        Later.set hget hle (fun _ _ => rfl) fun g hg => .inl hg⟩, hrep⟩
      rcases hg with hg | hg
      · exact .inl hg
      · exact .inr (h.own g ⟨b, _, hget, rfl, hg⟩)
    | frow e t l => exact ⟨F, .refl h, h.boxes.box b _ hget⟩
    | cells t cs => exact ⟨F, .refl h, trivial⟩
    | dead => exact ⟨F, .refl h, trivial⟩
  | _ => exact ⟨F, .refl h, hv⟩

theorem frzs_sound [Base] {vs : List V} {cs : List Value} (h : Rel O F m σ a w) (hv : All2 (RL F w m σ.boxes) vs cs) :
    ∃ F', Froze O F F' m σ (frzs σ.boxes vs).2 a w ∧ All2 (RL F' w m (frzs σ.boxes vs).2) (frzs σ.boxes vs).1 cs := by
  induction vs generalizing F σ cs with
  | nil =>
    cases hv
    exact ⟨F, .refl h, .nil⟩
  | cons v vs ih =>
    cases hv with
    | cons h1 h2 =>
      obtain ⟨F1, hf1, hr1⟩ := frz_sound h h1
      obtain ⟨F2, hf2, hr2⟩ := ih (σ := ⟨σ.slots, (frz σ.boxes v).2⟩) hf1.rel (h2.mono fun _ _ hx => hx.later hf1.later)
      exact ⟨F2, hf1.trans hf2, .cons (hr1.later hf2.later) hr2⟩

theorem frzV_sound [Base] (h : Rel O F m σ a w) {v : V} {c : Value} (hv : RV F w m σ.boxes v c) : ∃ F', Froze O F F' m σ (frzV σ.boxes v).2 a w ∧ RV F' w m (frzV σ.boxes v).2 (frzV σ.boxes v).1 c := by
  cases v with
  | agg cs =>
    obtain ⟨vs, rfl, hh⟩ := hv
    obtain ⟨F', hf, hr⟩ := frzs_sound h hh
    exact ⟨F', hf, vs, rfl, hr⟩
  | own b =>
    obtain ⟨F', hf, hr⟩ := frz_sound (v := .own b) h hv
    refine ⟨F', hf, ?_⟩
    show RV F' w m (frz σ.boxes (.own b)).2 (frz σ.boxes (.own b)).1 c
    revert hr
    simp only [frz]
    split <;> exact fun hr => hr
  | _ => exact ⟨F, .refl h, hv⟩
end Go.Lin
end

/- Loads and stores. -/
section
namespace Go.Lin

variable {F F' : Fz} {w w' : World} {m m' : Nat → Value} {bs bs' : List Box} {O : Nat → Prop} {σ : St} {a : Act} {P : Program} {tt : TT}

theorem add_at (g o : Nat) : (⟨g, 0, none⟩ : Addr).add o = ⟨g, o, none⟩ := by unfold Addr.add; split <;> simp_all

theorem part_some {cs c : List V} {off n : Nat} (h : part cs off n = some c) : off + n ≤ cs.length ∧ c = (cs.drop off).take n := by
  unfold part at h
  rw [cond_eq_ite] at h
  split at h
  · rename_i hb
    exact ⟨Nat.le_of_ble_eq_true hb, (Option.some.inj h).symm⟩
  · cases h
theorem splice_some {cs vs c : List V} {off : Nat} (h : splice cs off vs = some c) : off + vs.length ≤ cs.length ∧ c = cs.take off ++ vs ++ cs.drop (off + vs.length) := by
  unfold splice at h
  rw [cond_eq_ite] at h
  split at h
  · rename_i hb
    exact ⟨Nat.le_of_ble_eq_true hb, (Option.some.inj h).symm⟩
  · cases h

theorem getD_box [Base] {b : Nat} {x : Box} (h : σ.box b = x) (hx : x ≠ .dead) : σ.boxes[b]? = some x := get_of_getD h hx

theorem elt_get {t : Ty} {l : List t.D} {i : Int} (h : i.toNat < l.length) : elt l i = l[i.toNat]'h := by
  simp [elt, List.getD_eq_getElem?_getD, h]

theorem look_sound [Base] (hb : RBs F w m σ.boxes) {p : V} {vp : Value} {n : Nat} {cs : List V} (h : σ.look p n = some cs) (hp : RV F w m σ.boxes p vp) :
    ∃ (ad : Addr) (vals : List Value), vp = .pointer (some ad) ∧ cs.length = n ∧ All2 (RL F w m σ.boxes) cs vals ∧ ∀ (i : Nat) u, vals[i]? = some u → w.cell? (ad.add i) = some u := by
  -- cells that are known at an address, and a part of them
  have cut : ∀ (all : List V) (vals : List Value) (ad : Addr) (off : Nat), part all off n = some cs → All2 (RL F w m σ.boxes) all vals → (∀ (i : Nat) u, vals[i]? = some u → w.cell? (ad.add i) = some u) →
      ∃ vals : List Value, cs.length = n ∧ All2 (RL F w m σ.boxes) cs vals ∧ ∀ (i : Nat) u, vals[i]? = some u → w.cell? ((ad.add off).add i) = some u := by
    intro all vals ad off hpt hall hc
    obtain ⟨hle, rfl⟩ := part_some hpt
    refine ⟨(vals.drop off).take n, by simp; omega, (hall.drop off).take n, fun i u hu => ?_⟩
    rw [add_add]
    apply hc
    rw [List.getElem?_take] at hu
    split at hu
    · simpa using hu
    · cases hu
  cases p with
  | ptr b off =>
    obtain ⟨hlt, g, hm, rfl⟩ := hp
    simp only [St.look] at h
    split at h
    · rename_i t cs0 hbox
      obtain ⟨g', arr, hm', hg, hall, _⟩ := hb.box b _ (getD_box hbox (by simp))
      rw [hm] at hm'
      injection hm' with hm'
      injection hm' with hm'
      injection hm' with hm'
      subst hm'
      obtain ⟨vals, h1, h2, h3⟩ := cut cs0 arr.toList ⟨g, 0, none⟩ off h hall fun i u hu => by
        have : (⟨g, 0, none⟩ : Addr).add i = ⟨g, i, none⟩ := by unfold Addr.add; split <;> simp_all
        rw [this, cell_of_row w g i arr t (0, 0) hg]
        simpa using hu
      have e : (⟨g, 0, none⟩ : Addr).add off = ⟨g, off, none⟩ := by unfold Addr.add; split <;> simp_all
      exact ⟨⟨g, off, none⟩, vals, rfl, h1, h2, e ▸ h3⟩
    · cases h
  | sp t x off =>
    obtain ⟨ad, vs, rfl, hF, hr, hc⟩ := hp
    obtain ⟨vals, h1, h2, h3⟩ := cut _ vs ad off h (RL_unpack hr) hc
    exact ⟨ad.add off, vals, rfl, h1, h2, h3⟩
  | ep b i off =>
    obtain ⟨hlt, hi, hm⟩ := hp
    simp only [St.look] at h
    have hbx : σ.box b = σ.boxes.getD b .dead := rfl
    rw [hbx] at h
    split at h
    · rename_i e t l hbox
      rw [hbox] at hm
      obtain ⟨ad, c, hv, hil, rfl⟩ := hm
      obtain ⟨A, c', hv', _, _, hcells⟩ := row_cells (hb.box b _ (getD_box hbox (by simp)))
      obtain ⟨g, rfl, _, hel⟩ := hcells (by omega)
      rw [hv] at hv'
      injection hv' with hv' _ _
      injection hv' with hv'
      subst hv'
      obtain ⟨vs, hr, hc⟩ := hel i.toNat hil
      obtain ⟨vals, h1, h2, h3⟩ := cut (unpack t (elt l i)) vs ((⟨g, 0, none⟩ : Addr).add (i.toNat * t.size)) off h (by rw [elt_get hil]; exact RL_unpack hr) fun j u hu => by
        rw [add_add]
        exact hc j u hu
      refine ⟨_, vals, rfl, h1, h2, fun j u hu => ?_⟩
      rw [← add_add]
      exact h3 j u hu
    · rename_i e t l hbox
      rw [hbox] at hm
      obtain ⟨ad, c, hv, hil, rfl⟩ := hm
      obtain ⟨A, c', ad', vs, hv', _, _, hA, hel, hcell⟩ := Rep.slice_inv (show Rep F w (.slice e t) l [m b] from hb.box b _ (getD_box hbox (by simp)))
      obtain ⟨rfl, _⟩ := hA (by omega)
      rw [hv] at hv'
      simp only [List.cons.injEq, Value.slice.injEq, and_true] at hv'
      obtain ⟨hv', _⟩ := hv'
      injection hv' with hv'
      subst hv'
      obtain ⟨vals, h1, h2, h3⟩ := cut (unpack t (elt l i)) (vs i.toNat) (ad.add (i.toNat * t.size)) off h (by rw [elt_get hil]; exact RL_unpack (hel _ hil)) fun j u hu => by
        rw [add_add]
        exact hcell _ hil j u hu
      refine ⟨_, vals, rfl, h1, h2, fun j u hu => ?_⟩
      rw [← add_add]
      exact h3 j u hu
    · cases h
  | _ => simp [St.look] at h

theorem run_isAgg (hT : TTok P tt) {t : TypeId} (h0 : 0 < (tt.at t).size) : (isAgg t).run P w = .ok (tt.at t).agg w := by
  have hu := hT.under t
  unfold TI.agg
  cases hk : (tt.at t).kind with
  | struct offs tys =>
    rw [hk] at hu
    obtain ⟨fs, hu, _⟩ := hu
    simp [isAgg, run_underlying hu, Sem.run_pure]
  | int k => rw [hk] at hu; simp [isAgg, run_underlying hu, Sem.run_pure]
  | bool => rw [hk] at hu; simp [isAgg, run_underlying hu, Sem.run_pure]
  | str => rw [hk] at hu; simp [isAgg, run_underlying hu, Sem.run_pure]
  | slice e => rw [hk] at hu; simp [isAgg, run_underlying hu.1, Sem.run_pure]
  | other =>
    rw [hk] at hu
    obtain ⟨d, hu, hd⟩ := hu h0
    simp only [isAgg, Sem.run_bind, run_underlying hu, Result.andThen_ok]
    cases d <;> first | rfl | (simp at hd; done)

theorem run_sizeOf_ (hT : TTok P tt) {t : TypeId} (h0 : 0 < (tt.at t).size) : (sizeOf t).run P w = .ok (tt.at t).size w := by
  obtain ⟨inf, hi, hs, _⟩ := hT.known t h0
  simp [sizeOf, typeInfo, hi, hs, Sem.run_pure]

theorem load_sound [Base] (hT : TTok P tt) {t : TypeId} (h0 : 0 < (tt.at t).size) {ad : Addr} {cs : List V} {vals : List Value} {v : V} (hlen : cs.length = (tt.at t).size) (hr : All2 (RL F w m bs) cs vals)
    (hc : ∀ (i : Nat) u, vals[i]? = some u → w.cell? (ad.add i) = some u) (hv : val (tt.at t).agg cs = some v) :
    ∃ cv, (Instr.loadAt t (.pointer (some ad))).run P w = .ok cv w ∧ RV F w m bs v cv := by
  have hl := run_loadCells_list (P := P) w ad vals hc
  rw [← hr.length, hlen] at hl
  cases hag : (tt.at t).agg with
  | true =>
    rw [hag] at hv
    obtain rfl := Option.some.inj hv
    refine ⟨.agg vals.toArray, ?_, vals.toArray, rfl, hr⟩
    simp [Instr.loadAt, Instr.sureAddr, loadVar, run_isAgg hT h0, hag, run_sizeOf_ hT h0, hl]
  | false =>
    rw [hag] at hv
    cases hr with
    | nil => cases hv
    | cons h1 h2 =>
      cases h2 with
      | cons => cases hv
      | nil =>
        rename_i x y
        obtain rfl := Option.some.inj hv
        refine ⟨y, ?_, ?_⟩
        · have hcell := hc 0 y rfl
          have e : ad.add 0 = ad := by simp [Addr.add]
          rw [e] at hcell
          simp [Instr.loadAt, Instr.sureAddr, loadVar, run_isAgg hT h0, hag, load, Sem.run, hcell]
        · have hx : RL F w m bs x y := h1
          cases x <;> first | exact hx | exact hx.elim | exact trivial

/-! ### stores -/
theorem solid_one [Base] (hb : RBs F w m bs) {v : V} {c : Value} (hs : v.solid bs = true) (h : RL F w m bs v c) : c.oneCell' = true := by
  cases v with
  | int k n => rw [show c = _ from h]; rfl
  | bool b => rw [show c = _ from h]; rfl
  | str s => rw [show c = _ from h]; rfl
  | slc e t l =>
    obtain ⟨A, c', _, _, hv, _⟩ := Rep.slice_inv (show Rep F w (.slice e t) l [c] from h)
    simp at hv
    rw [hv]; rfl
  | nils => rw [show c = _ from h]; rfl
  | own b =>
    obtain ⟨hlt, rfl⟩ := h
    simp only [V.solid] at hs
    split at hs
    · rename_i e t l hbox
      obtain ⟨A, c, hv, _⟩ := row_cells (hb.box b _ (get_of_getD hbox (by simp)))
      rw [hv]; rfl
    · rename_i e t l hbox
      obtain ⟨A, c', _, _, hv, _⟩ := Rep.slice_inv (show Rep F w (.slice e t) l [m b] from hb.box b _ (get_of_getD hbox (by simp)))
      simp at hv
      rw [hv]; rfl
    · cases hs
  | ptr b off =>
    obtain ⟨_, g, _, rfl⟩ := h
    rfl
  | sp t x off =>
    obtain ⟨ad, cs, rfl, _⟩ := h
    rfl
  | _ => first | (cases hs; done) | exact h.elim

theorem All2.mem {α β : Type} {R : α → β → Prop} {xs : List α} {ys : List β} (h : All2 R xs ys) {y : β} (hy : y ∈ ys) : ∃ x ∈ xs, R x y := by
  induction h with
  | nil => cases hy
  | cons hr _ ih =>
    rcases List.mem_cons.1 hy with rfl | hy
    · exact ⟨_, by simp, hr⟩
    · obtain ⟨x, hx, h⟩ := ih hy
      exact ⟨x, by simp [hx], h⟩

theorem solids_one [Base] (hb : RBs F w m bs) {vs : List V} {cs : List Value} (hs : vs.all (V.solid bs) = true) (h : All2 (RL F w m bs) vs cs) : ∀ c ∈ cs, c.oneCell' = true := by
  intro c hc
  obtain ⟨v, hv, hr⟩ := h.mem hc
  exact solid_one hb (by simpa using (List.all_eq_true.1 hs) v hv) hr

theorem run_storeAt [Base] (hT : TTok P tt) {t : TypeId} (h0 : 0 < (tt.at t).size) {g off : Nat} {e : TypeId} {cur : Array Value} {cv : Value} {vals : List Value} (hv : cv.cells.toList = vals) (hl : vals.length = (tt.at t).size)
    (hg : w.heap[g]? = some (.cells cur e (0, 0))) (hfit : off + vals.length ≤ cur.size) (h1 : ∀ v ∈ vals, v.oneCell' = true) :
    (Instr.storeAt t (.pointer (some ⟨g, off, none⟩)) cv).run P w = .ok () (w.setRow g (cur.toList.take off ++ vals ++ cur.toList.drop (off + vals.length)).toArray) := by
  have hst := run_storeCells_at P g off e vals 0 cur w hg (by simpa using hfit) h1
  have hsz : cv.cells.size = (tt.at t).size := by rw [← hl, ← hv, Array.length_toList]
  simp only [Nat.add_zero] at hst
  simp only [Instr.storeAt, Instr.sureAddr, storeVar, Sem.run_bind, Sem.run_pure, Result.andThen_ok, run_sizeOf_ hT h0, hsz, hv]
  simpa using hst

theorem setRow_heap_other {g k : Nat} {cs : Array Value} (h : k ≠ g) : (w.setRow g cs).heap[k]? = w.heap[k]? := setRow_other w g k cs h

/-- A store into a variable of the call's own. -/
theorem store_cells [Base] (hT : TTok P tt) (h : Rel O F m σ a w) {t : TypeId} (h0 : 0 < (tt.at t).size) {b off : Nat} {bt : TypeId} {cs cs' : List V} (hb : σ.boxes[b]? = some (.cells bt cs))
    {vs : List V} {cv vp : Value} {vals : List Value} (hp : RV F w m σ.boxes (.ptr b off) vp) (hv : cv.cells.toList = vals) (hr : All2 (RL F w m σ.boxes) vs vals) (hl : vs.length = (tt.at t).size)
    (hs : vs.all (V.solid σ.boxes) = true) (hsp : splice cs off vs = some cs') :
    ∃ w', (Instr.storeAt t vp cv).run P w = .ok () w' ∧ Rel O F m (σ.setBox b (.cells bt cs')) a w' ∧ Keep O w w' ∧ Later F F w w' m m σ.boxes (σ.setBox b (.cells bt cs')).boxes := by
  obtain ⟨hlt, g, hm, rfl⟩ := hp
  obtain ⟨g', arr, hm', hg, hall, hnf⟩ := h.boxes.box b _ hb
  rw [hm] at hm'
  injection hm' with hm'
  injection hm' with hm'
  injection hm' with hm'
  subst hm'
  obtain ⟨hle, rfl⟩ := splice_some hsp
  have hlv := hr.length
  have hla := hall.length
  have hrun := run_storeAt hT h0 (off := off) (cv := cv) hv (by rw [← hlv, hl]) hg (by rw [← hlv]; have := Array.length_toList (xs := arr); omega) (solids_one h.boxes hs hr)
  refine ⟨_, hrun, ?_, ?_, Later.set hb rfl (fun k hk => setRow_heap_other fun e => hnf (e ▸ hk)) fun _ h => h⟩
  · have hle' : Box.le (.cells bt cs) (.cells bt (cs.take off ++ vs ++ cs.drop (off + vs.length))) := rfl
    have hwo : ∀ k, k < w.heap.size → blk (m b) ≠ some k → (w.setRow g (arr.toList.take off ++ vals ++ arr.toList.drop (off + vals.length)).toArray).heap[k]? = w.heap[k]? := by
      intro k _ hk
      refine setRow_heap_other fun e => hk ?_
      rw [hm, e]; rfl
    have L : Later F F w (w.setRow g (arr.toList.take off ++ vals ++ arr.toList.drop (off + vals.length)).toArray) m m σ.boxes (σ.boxes.set b (.cells bt (cs.take off ++ vs ++ cs.drop (off + vs.length)))) :=
      Later.set hb hle' (fun k hk => setRow_heap_other fun e => hnf (e ▸ hk)) fun _ h => h
    refine h.set hb hle' rfl (by simp) (fun _ h => h) (fun _ h => .inl h) hwo ⟨g, _, hm, setRow_heap w g arr _ bt (0, 0) hg, ?_, hnf⟩
    have hfin := ((hall.take off).append hr).append (hall.drop (off + vs.length))
    rw [hlv] at hfin
    rw [hlv] at L ⊢
    exact hfin.mono fun _ _ hx => hx.later L
  · exact ⟨rfl, rfl, rfl, by simp, fun k _ hk => setRow_heap_other fun e => hk (h.own k ⟨b, _, hb, rfl, by rw [hm, e]; rfl⟩)⟩

theorem flatten_set {sz : Nat} : ∀ {cs : List (List Value)} {i : Nat} {c : List Value}, (∀ c ∈ cs, c.length = sz) → i < cs.length → c.length = sz →
    (cs.set i c).flatten = cs.flatten.take (i * sz) ++ c ++ cs.flatten.drop ((i + 1) * sz)
  | d :: cs, 0, c, hl, _, hc => by
    have hd : d.length = sz := hl d (by simp)
    simp [List.flatten_cons, ← hd]
  | d :: cs, i + 1, c, hl, hi, hc => by
    have hd : d.length = sz := hl d (by simp)
    have ih := flatten_set (cs := cs) (i := i) (c := c) (fun c hc => hl c (by simp [hc])) (by simpa using hi) hc
    rw [List.set_cons_succ, List.flatten_cons, ih, List.flatten_cons, List.take_append, List.drop_append]
    have e1 : (i + 1) * sz - d.length = i * sz := by rw [hd, Nat.succ_mul]; omega
    have e2 : (i + 1 + 1) * sz - d.length = (i + 1) * sz := by rw [hd, Nat.succ_mul (i + 1)]; omega
    have e3 : d.take ((i + 1) * sz) = d := List.take_of_length_le (by rw [hd, Nat.succ_mul]; omega)
    have e4 : d.drop ((i + 1 + 1) * sz) = [] := List.drop_of_length_le (by rw [hd, Nat.succ_mul]; omega)
    rw [e1, e2, e3, e4]
    simp

theorem put_len {t : Ty} (l : List t.D) (i : Int) (x : t.D) : (put_ l i x).length = l.length := by unfold put_; exact List.length_set ..
theorem Reps.set [Base] {t : Ty} {l : List t.D} {cs : List (List Value)} (h : All2 (Rep F w t) l cs) (i : Nat) {x : t.D} {c : List Value} (hc : Rep F w t x c) : All2 (Rep F w t) (l.set i x) (cs.set i c) := h.set i hc

theorem splice_two {xs c vals rest : List Value} {i sz off n : Nat} (hxs : ∀ (j : Nat) u, c[j]? = some u → xs[i * sz + j]? = some u) (hc : c.length = sz) (hn : (i + 1) * sz ≤ n) (hx : xs.length = n) (hoff : off + vals.length ≤ sz) :
    (xs ++ rest).take (i * sz + off) ++ vals ++ (xs ++ rest).drop (i * sz + off + vals.length) = (xs.take (i * sz) ++ (c.take off ++ vals ++ c.drop (off + vals.length)) ++ xs.drop ((i + 1) * sz)) ++ rest := by
  have hs : (i + 1) * sz = i * sz + sz := Nat.succ_mul i sz
  have hcx : c = (xs.drop (i * sz)).take sz := by
    apply List.ext_getElem?
    intro j
    by_cases hj : j < sz
    · rw [List.getElem?_take_of_lt hj, List.getElem?_drop]
      have := hxs j (c[j]'(by omega)) (List.getElem?_eq_getElem (by omega))
      rw [this, List.getElem?_eq_getElem (by omega)]
    · rw [List.getElem?_eq_none (by omega), List.getElem?_eq_none (by simp; omega)]
  have hsplit : xs = xs.take (i * sz) ++ (c ++ xs.drop ((i + 1) * sz)) := by
    rw [hcx, hs, ← List.drop_drop, List.take_append_drop, List.take_append_drop]
  have hl : (xs.take (i * sz)).length = i * sz := by simp; omega
  generalize hp : xs.take (i * sz) = p at *
  generalize hq : xs.drop ((i + 1) * sz) = q at *
  rw [hsplit]
  have e1 : (p ++ (c ++ q) ++ rest).take (i * sz + off) = p ++ c.take off := by
    rw [List.append_assoc, List.take_append, hl]
    have : i * sz + off - i * sz = off := by omega
    rw [this, List.append_assoc, List.take_append_of_le_length (by omega), List.take_of_length_le (by omega)]
  have e2 : (p ++ (c ++ q) ++ rest).drop (i * sz + off + vals.length) = c.drop (off + vals.length) ++ q ++ rest := by
    rw [List.append_assoc, List.drop_append, hl]
    have : i * sz + off + vals.length - i * sz = off + vals.length := by omega
    rw [this, List.drop_of_length_le (by omega), List.nil_append, List.append_assoc, List.drop_append_of_le_length (by omega), List.append_assoc]
  rw [e1, e2]
  simp

theorem store_row [Base] (hT : TTok P tt) (h : Rel O F m σ a w) {t : TypeId} (h0 : 0 < (tt.at t).size) {b off : Nat} {i : Int} {e : TypeId} {ty : Ty} {l : List ty.D} (hb : σ.boxes[b]? = some (.row e ty l))
    {vs cs' : List V} {cv vp : Value} {vals : List Value} {x : ty.D} (hp : RV F w m σ.boxes (.ep b i off) vp) (hv : cv.cells.toList = vals) (hr : All2 (RL F w m σ.boxes) vs vals) (hl : vs.length = (tt.at t).size)
    (h1 : ∀ v ∈ vals, v.oneCell' = true) (hsp : splice (unpack ty (elt l i)) off vs = some cs') (hpk : pack1 ty cs' = some x) :
    ∃ w', (Instr.storeAt t vp cv).run P w = .ok () w' ∧ Rel O F m (σ.setBox b (.row e ty (put_ l i x))) a w' ∧ Keep O w w' ∧ Later F F w w' m m σ.boxes (σ.setBox b (.row e ty (put_ l i x))).boxes := by
  obtain ⟨hlt, hi, hm⟩ := hp
  rw [getD_of_get hb] at hm
  obtain ⟨ad, cp, hmb, hil, rfl⟩ := hm
  obtain ⟨xs, ho, hreps, hnf⟩ := h.boxes.box b _ hb
  rcases ho.2 with ⟨hn, _⟩ | ⟨g, cap, cur, hmb', _, hg, hnc, hcm, hsz, htake⟩
  · rw [hmb] at hn; cases hn
  rw [hmb] at hmb'
  injection hmb' with hA _ hC
  injection hA with hA
  subst hA hC
  obtain ⟨hle, rfl⟩ := splice_some hsp
  have hlv := hr.length
  rw [unpack_len] at hle
  obtain ⟨css, hfl, hall⟩ := hreps
  have hlens := Reps.lens hall
  obtain ⟨c, hc, hrc⟩ := hall.get i.toNat _ (List.getElem?_eq_getElem hil)
  have hcl := hrc.len
  have hxlen : xs.length = l.length * ty.size := ho.1
  have hcur : cur.toList = xs ++ cur.toList.drop (l.length * ty.size) := by rw [← htake, List.take_append_drop]
  have hcurl : cur.size = cur.toList.length := by simp
  have hidx : (i.toNat + 1) * ty.size ≤ l.length * ty.size := Nat.mul_le_mul_right _ hil
  have hs1 : (i.toNat + 1) * ty.size = i.toNat * ty.size + ty.size := Nat.succ_mul _ _
  have hle2 : l.length * ty.size ≤ cur.size := by rw [hsz]; exact Nat.mul_le_mul_right _ hnc
  have hfit : i.toNat * ty.size + off + vals.length ≤ cur.size := by omega
  have eadd : (⟨g, 0, none⟩ : Addr).add (i.toNat * ty.size + off) = ⟨g, i.toNat * ty.size + off, none⟩ := add_at g _
  have hrun := run_storeAt hT h0 (off := i.toNat * ty.size + off) (cv := cv) hv (by rw [← hlv, hl]) hg hfit h1
  rw [eadd]
  refine ⟨_, hrun, ?_, ?_, Later.set hb ⟨rfl, put_len l i x⟩ (fun k hk => setRow_heap_other fun e => hnf k (by rw [hmb, e]; rfl) hk) fun _ h => h⟩
  · generalize hW : w.setRow g (cur.toList.take (i.toNat * ty.size + off) ++ vals ++ cur.toList.drop (i.toNat * ty.size + off + vals.length)).toArray = W
    have hwo : ∀ k, k < w.heap.size → blk (m b) ≠ some k → W.heap[k]? = w.heap[k]? := by
      intro k _ hk
      rw [← hW]
      refine setRow_heap_other fun e => hk ?_
      rw [hmb, e]; rfl
    have hFo : ∀ k, F k → W.heap[k]? = w.heap[k]? := fun k hk => hwo k (h.boxes.fz k hk) fun e => hnf k e hk
    have hle' : Box.le (.row e ty l) (.row e ty (put_ l i x)) := ⟨rfl, put_len l i x⟩
    have L : Later F F w W m m σ.boxes (σ.boxes.set b (.row e ty (put_ l i x))) := Later.set hb hle' hFo fun _ h => h
    -- the element's new cells
    have hnew : Rep F w ty x (c.take off ++ vals ++ c.drop (off + vs.length)) := pack1_sound hpk (((((RL_unpack (m := m) (bs := σ.boxes) hrc).take off).append hr).append ((RL_unpack hrc).drop (off + vs.length))) |> fun hh => by rw [elt_get hil]; exact hh)
    have hnlen : (c.take off ++ vals ++ c.drop (off + vs.length)).length = ty.size := hnew.len
    refine h.set hb hle' rfl (by rw [← hW]; simp) (fun _ h => h) (fun _ h => .inl h) hwo ⟨(css.set i.toNat (c.take off ++ vals ++ c.drop (off + vs.length))).flatten, ⟨?_, .inr ⟨g, cp, (cur.toList.take (i.toNat * ty.size + off) ++ vals ++ cur.toList.drop (i.toNat * ty.size + off + vals.length)).toArray, ?_, Nat.zero_le _, ?_, ?_, hcm, ?_, ?_⟩⟩, ⟨_, rfl, ?_⟩, hnf⟩
    · rw [flat_len (sz := ty.size)]
      · rw [put_len, List.length_set, hall.length]
      · intro d hd
        rcases List.mem_or_eq_of_mem_set hd with hd | rfl
        · exact hlens d hd
        · exact hnlen
    · rw [hmb, put_len]
    · rw [← hW]; exact setRow_heap w g cur _ e (0, 0) hg
    · rw [put_len]; exact hnc
    · have : (cur.toList.take (i.toNat * ty.size + off) ++ vals ++ cur.toList.drop (i.toNat * ty.size + off + vals.length)).length = cur.size := by simp; omega
      simpa using this.trans hsz
    · have hi' : i.toNat < css.length := by rw [← hall.length]; exact hil
      rw [flatten_set hlens hi' hnlen, ← hfl]
      have hxs : ∀ (j : Nat) u, c[j]? = some u → xs[i.toNat * ty.size + j]? = some u := fun j u hu => by rw [hfl]; exact flat_get hlens hc hu
      have hkey := splice_two (xs := xs) (c := c) (vals := vals) (rest := cur.toList.drop (l.length * ty.size)) (i := i.toNat) (sz := ty.size) (off := off) (n := l.length * ty.size) hxs hcl hidx hxlen (by omega)
      rw [← hcur] at hkey
      rw [put_len]
      rw [List.toList_toArray, hkey, hlv]
      rw [List.take_append_of_le_length (by simp; omega), List.take_of_length_le (by simp; omega)]
    · exact (hall.set i.toNat hnew).mono fun _ _ hx => hx.mono L.fz L.blk
  · exact ⟨rfl, rfl, rfl, by simp, fun k _ hk => setRow_heap_other fun e' => hk (h.own k ⟨b, _, hb, rfl, by rw [hmb, e']; rfl⟩)⟩
end Go.Lin
end

/- The operations, one by one. -/
section
namespace Go.Lin

variable {F F' : Fz} {w w' : World} {m m' : Nat → Value} {bs bs' : List Box} {O : Nat → Prop} {σ : St} {a : Act} {P : Program} {tt : TT} {ρ : Type} {r : ρ} {K : V → St → Option ρ} {o : Oper}

/-- The operation yields a value. -/
def Yields [Base] (P : Program) (O : Nat → Prop) (F : Fz) (w : World) (m : Nat → Value) (bs : List Box) (K : V → St → Option ρ) (r : ρ) (a : Act) (o : Oper) : Prop :=
  ∃ cv w', (execOp a.eval o).run P w = .ok (.value cv) w' ∧ Out O F w m bs K r a cv w'

theorem Yields.pure_ [Base] (hR : Rel O F m σ a w) {v : V} {cv : Value} (hrun : (execOp a.eval o).run P w = .ok (.value cv) w) (hK : K v σ = some r) (hv : RV F w m σ.boxes v cv) : Yields P O F w m σ.boxes K r a o :=
  ⟨cv, w, hrun, .pure_ hK hR hv⟩

theorem run_v {s : Sem Value} {cv : Value} (h : s.run P w = .ok cv w') : (do pure (Next.value (← s)) : Sem Next).run P w = .ok (.value cv) w' := by
  simp only [Sem.run_bind, h, Result.andThen_ok, Sem.run_pure]

theorem step_move [Base] (hR : Rel O F m σ a w) {x : Operand} (ho : o.op = .move x ∨ o.op = .assign x) (h : K (σ.ev x) σ = some r) : Yields P O F w m σ.boxes K r a o :=
  Yields.pure_ hR (by rcases ho with ho | ho <;> simp [execOp, ho, Sem.run_pure]) h (ev_sound hR.slots x)

theorem run_pick {c x y : Operand} {t : Bool} (ho : o.op = .pick c x y) (hc : a.eval c = .bool t) : (execOp a.eval o).run P w = .ok (.value (if t then a.eval x else a.eval y)) w := by
  cases t <;> simp [execOp, ho, hc, asBool, Sem.run_pure]

theorem step_pick [Base] (hR : Rel O F m σ a w) {c x y : Operand} (ho : o.op = .pick c x y)
    (h : (match σ.ev c with | .bool t => pick2 t (σ.ev x) (σ.ev y) (fun v => K v σ) | _ => none) = some r) : Yields P O F w m σ.boxes K r a o := by
  have hc := ev_sound hR.slots c
  have hx := ev_sound hR.slots x
  have hy := ev_sound hR.slots y
  split at h
  · rename_i t hct
    rw [hct] at hc
    have hrun := run_pick (P := P) (w := w) ho (RV.bool_inv hc)
    have plain : cond t (K (σ.ev x) σ) (K (σ.ev y) σ) = some r → Yields P O F w m σ.boxes K r a o := by
      intro h
      cases t with
      | true => exact Yields.pure_ hR hrun h hx
      | false => exact Yields.pure_ hR hrun h hy
    revert h plain
    generalize σ.ev x = vx at hx
    generalize σ.ev y = vy at hy
    intro h plain
    cases vx <;> cases vy <;> try exact plain h
    case int.int k n k' n' =>
      simp only [pick2, Bool.cond_decide] at h
      split at h
      · rename_i hk
        subst hk
        refine Yields.pure_ hR hrun h ?_
        rw [RV.int_inv hx, RV.int_inv hy]
        cases t <;> rfl
      · exact plain h
    case bool.bool b b' =>
      refine Yields.pure_ hR hrun h ?_
      rw [RV.bool_inv hx, RV.bool_inv hy]
      cases t <;> rfl
  · cases h

theorem step_binop [Base] (hT : TTok P tt) (hR : Rel O F m σ a w) {op : BinOp} {t ty : TypeId} {x y : Operand} (ho : o.op = .binOp op t x y ty)
    (h : binop (match (tt.at t).kind with | .bool => true | _ => false) op (σ.ev x) (σ.ev y) (fun v => K v σ) = some r) : Yields P O F w m σ.boxes K r a o := by
  obtain ⟨v, cv, hK, hv, hrun⟩ := binop_sound (xo := x) (yo := y) (P := P) (w := w) hT h (ev_sound hR.slots x) (ev_sound hR.slots y)
  exact Yields.pure_ hR (by simpa only [execOp, ho] using run_v hrun) hK hv

theorem step_unop [Base] (hR : Rel O F m σ a w) {op : UnOp} {t : TypeId} {x : Operand} (ho : o.op = .unOp op t x) (h : unop op (σ.ev x) (fun v => K v σ) = some r) : Yields P O F w m σ.boxes K r a o := by
  have hx := ev_sound hR.slots x
  revert h
  generalize σ.ev x = vx at hx
  intro h
  cases op <;> cases vx <;> simp only [unop] at h <;> try (cases h; done)
  · rename_i k n
    refine Yields.pure_ hR (cv := .int k (k.wrap (0 - n))) ?_ h rfl
    simp only [execOp, ho, RV.int_inv hx]
    exact run_v (by simp [Op.unary, Op.intArith, Sem.run_pure])
  · rename_i b
    refine Yields.pure_ hR (cv := .bool (!b)) ?_ h rfl
    simp only [execOp, ho, RV.bool_inv hx]
    exact run_v (by simp [Op.unary, Sem.run_pure])

theorem step_extract [Base] (hR : Rel O F m σ a w) {x : Operand} {i : Nat} (ho : o.op = .extract x i)
    (h : (match σ.ev x with | .tup vs => (vs[i]?).bind fun v => K v σ | _ => none) = some r) : Yields P O F w m σ.boxes K r a o := by
  have hx := ev_sound hR.slots x
  split at h
  · rename_i vs hvs
    rw [hvs] at hx
    obtain ⟨cs, hc, hall⟩ := hx
    simp only [Option.bind_eq_some_iff] at h
    obtain ⟨v, hv, hK⟩ := h
    obtain ⟨c, hc', hr⟩ := hall.get i v hv
    refine Yields.pure_ hR (cv := c) ?_ hK ?_
    · simp only [execOp, ho, hc]
      refine run_v ?_
      have : cs[i]? = some c := by simpa using hc'
      simp [Instr.extract, this, Sem.run_pure]
    · cases v <;> first | exact hr | exact hr.elim | exact trivial
  · cases h

theorem step_nilCheck [Base] (hR : Rel O F m σ a w) {x : Operand} (ho : o.op = .nilCheck x)
    (h : (match σ.ev x with
      | .ptr b off => K (.ptr b off) σ
      | .ep b i off => match σ.boxes.getD b .dead with
        | .row .. => K (.ep b i off) σ
        | .frow .. => K (.ep b i off) σ
        | _ => none
      | .sp t y off => K (.sp t y off) σ
      | .fn f caps => K (.fn f caps) σ
      | _ => none) = some r) : Yields P O F w m σ.boxes K r a o := by
  have hx := ev_sound hR.slots x
  split at h
  · rename_i b off hv
    rw [hv] at hx
    have hx' := hx
    obtain ⟨_, g, _, hc⟩ := hx
    exact Yields.pure_ hR (cv := a.eval x) (by simp [execOp, ho, hc, Sem.run_pure]) h hx'
  · rename_i b i off hv
    rw [hv] at hx
    have hx' := hx
    obtain ⟨_, _, hm⟩ := hx
    split at h
    · rename_i hbx
      rw [hbx] at hm
      obtain ⟨ad, c, _, _, hc⟩ := hm
      exact Yields.pure_ hR (cv := a.eval x) (by simp [execOp, ho, hc, Sem.run_pure]) h hx'
    · rename_i hbx
      rw [hbx] at hm
      obtain ⟨ad, c, _, _, hc⟩ := hm
      exact Yields.pure_ hR (cv := a.eval x) (by simp [execOp, ho, hc, Sem.run_pure]) h hx'
    · cases h
  · rename_i t y off hv
    rw [hv] at hx
    have hx' := hx
    obtain ⟨ad, cs, hc, _⟩ := hx
    exact Yields.pure_ hR (cv := a.eval x) (by simp [execOp, ho, hc, Sem.run_pure]) h hx'
  · rename_i f caps hv
    rw [hv] at hx
    have hx' := hx
    obtain ⟨vs, hc, _⟩ := hx
    exact Yields.pure_ hR (cv := a.eval x) (by simp [execOp, ho, hc, Sem.run_pure]) h hx'
  · cases h

theorem step_load [Base] (hT : TTok P tt) (hR : Rel O F m σ a w) {t : TypeId} {x : Operand} (ho : o.op = .load t x)
    (h : (bif Nat.blt 0 (tt.at t).size then (σ.look (σ.ev x) (tt.at t).size).bind fun cs => (val (tt.at t).agg cs).bind fun v => K v σ else none) = some r) : Yields P O F w m σ.boxes K r a o := by
  rw [cond_eq_ite] at h
  split at h
  · rename_i h0
    have h0 : 0 < (tt.at t).size := by simpa [Nat.blt_eq] using h0
    simp only [Option.bind_eq_some_iff] at h
    obtain ⟨cs, hl, v, hv, hK⟩ := h
    obtain ⟨ad, vals, hp, hlen, hall, hc⟩ := look_sound hR.boxes hl (ev_sound hR.slots x)
    obtain ⟨cv, hrun, hr⟩ := load_sound hT h0 hlen hall hc hv
    refine Yields.pure_ hR ?_ hK hr
    simp only [execOp, ho, hp]
    exact run_v hrun
  · cases h

theorem Out.rel [Base] {v : V} {cv : Value} {σ' : St} {F' : Fz} {m' : Nat → Value} (hK : K v σ' = some r) (hR : Rel O F' m' σ' a w') (hv : RV F' w' m' σ'.boxes v cv) (hk : Keep O w w') (hL : Later F F' w w' m m' bs σ'.boxes) (hF' : ∀ g, F' g → F g ∨ O g) :
    Out O F w m bs K r a cv w' := ⟨v, σ', F', m', hK, hR, hv, hk, hL, hF'⟩

theorem cells_one {c : Value} (h : c.oneCell' = true) : c.cells.toList = [c] := by cases c <;> first | rfl | (cases h; done)

theorem cells_sound [Base] (hb : RBs F w m bs) {v : V} {c : Value} (hv : RV F w m bs v c) (hs : v.cells.all (V.solid bs) = true) : All2 (RL F w m bs) v.cells c.cells.toList := by
  have leaf : ∀ {v : V} {c : Value}, v.solid bs = true → RL F w m bs v c → All2 (RL F w m bs) [v] c.cells.toList := by
    intro v c hs h
    rw [cells_one (solid_one hb hs h)]
    exact .cons h .nil
  cases v with
  | agg cs => obtain ⟨vs, rfl, hh⟩ := hv; exact hh
  | tup cs => simp [V.cells, V.solid] at hs
  | fn f cs => simp [V.cells, V.solid] at hs
  | undef => simp [V.cells, V.solid] at hs
  | junk => simp [V.cells, V.solid] at hs
  | _ => exact leaf (by simpa [V.cells] using hs) hv

theorem frzs_len (bs : List Box) (vs : List V) : (frzs bs vs).1.length = vs.length := by
  induction vs generalizing bs with
  | nil => rfl
  | cons v vs ih => simp only [frzs, List.length_cons]; rw [ih]

theorem step_store [Base] (hT : TTok P tt) (hR : Rel O F m σ a w) {t : TypeId} {x y : Operand} (ho : o.op = .store t x y)
    (h : (bif Nat.blt 0 (tt.at t).size && ((σ.ev y).cells.length == (tt.at t).size && (σ.ev y).cells.all (V.solid σ.boxes)) then
      (match σ.ev x with
        | .ep b i off => (St.store ⟨σ.slots, (frzs σ.boxes (σ.ev y).cells).2⟩ (.ep b i off) (frzs σ.boxes (σ.ev y).cells).1).bind fun σ' => K .undef σ'
        | p => (σ.store p (σ.ev y).cells).bind fun σ' => K .undef σ') else none) = some r) :
    ∃ w', (execOp a.eval o).run P w = .ok .skip w' ∧ Out O F w m σ.boxes K r a undef w' := by
  rw [cond_eq_ite] at h
  split at h
  case isFalse => cases h
  rename_i hc
  simp only [Bool.and_eq_true, beq_iff_eq] at hc
  obtain ⟨h0, hl, hs⟩ := hc
  have h0 : 0 < (tt.at t).size := by simpa [Nat.blt_eq] using h0
  have hp := ev_sound hR.slots x
  have hv := ev_sound hR.slots y
  have hcells := cells_sound hR.boxes hv hs
  have hone := solids_one hR.boxes hs hcells
  have skip : ∀ {w'}, (Instr.storeAt t (a.eval x) (a.eval y)).run P w = .ok () w' → (execOp a.eval o).run P w = .ok .skip w' := by
    intro w' hrun
    simp only [execOp, ho, Sem.run_bind, hrun, Result.andThen_ok, Sem.run_pure]
  split at h
  · rename_i b i off hx
    rw [hx] at hp
    obtain ⟨F', hf, hv'⟩ := frzs_sound hR hcells
    have hlen := frzs_len σ.boxes (σ.ev y).cells
    revert h hf hv' hlen
    generalize frzs σ.boxes (σ.ev y).cells = q
    obtain ⟨vs, bs'⟩ := q
    intro h hf hv' hlen
    simp only [Option.bind_eq_some_iff] at h
    obtain ⟨σ', hst, hK⟩ := h
    have hp' := hp.later hf.later
    simp only [St.store] at hst
    split at hst
    · rename_i e ty l hbox
      simp only [Option.bind_eq_some_iff, Option.some.injEq] at hst
      obtain ⟨cs', hsp, x', hpk, rfl⟩ := hst
      obtain ⟨w', hrun, hR', hk, hL⟩ := store_row hT hf.rel h0 (getD_box hbox (by simp)) hp' rfl hv' (by rw [← hl]; exact hlen) hone hsp hpk
      exact ⟨w', skip hrun, .rel hK hR' rfl hk (hf.later.trans hL) hf.fz'⟩
    · cases hst
  · simp only [Option.bind_eq_some_iff] at h
    obtain ⟨σ', hst, hK⟩ := h
    rename_i hne
    cases hvx : σ.ev x <;> rw [hvx] at hp hst <;> simp only [St.store] at hst <;> try (cases hst; done)
    · rename_i b off
      split at hst
      · rename_i t' cs hbox
        simp only [Option.bind_eq_some_iff, Option.some.injEq] at hst
        obtain ⟨cs', hsp, rfl⟩ := hst
        obtain ⟨w', hrun, hR', hk, hL⟩ := store_cells hT hR h0 (getD_box hbox (by simp)) hp rfl hcells hl hs hsp
        exact ⟨w', skip hrun, .rel hK hR' rfl hk hL fun _ h => .inl h⟩
      · cases hst
    · exact absurd hvx (hne _ _ _)
end Go.Lin
end

/- The operations that make something. -/
section
namespace Go.Lin

variable {F F' : Fz} {w w' : World} {m m' : Nat → Value} {bs bs' : List Box} {O : Nat → Prop} {σ : St} {a : Act} {P : Program} {tt : TT} {ρ : Type} {r : ρ} {K : V → St → Option ρ} {o : Oper}

theorem Keep.alloc (x : Obj) : Keep O w (w.alloc x) :=
  ⟨rfl, rfl, rfl, by simp, fun g hg _ => heap_alloc_old w x g hg⟩

theorem run_zero [Base] (hT : TTok P tt) {t : TypeId} {ty : Ty} (h : (tt.at t).ty = some ty) : ∃ z : Value, (zeroValue t).run P w = .ok z w ∧ z.cells.size = ty.size ∧ ∀ F w m bs, All2 (RL F w m bs) (zeros ty) z.cells.toList := by
  obtain ⟨_, _, inf, z, hi, hz, hall⟩ := hT.zero t ty h
  refine ⟨z, by simp [zeroValue, typeInfo, hi, hz, Sem.run_pure], ?_, hall⟩
  have hl := (hall (fun _ => False) w (fun _ => undef) []).length
  have : ∀ ty : Ty, (zeros ty).length = ty.size := by
    intro ty
    induction ty with
    | pair a b iha ihb => simp [zeros, Ty.size, iha, ihb]
    | _ => rfl
  rw [this] at hl
  simpa using hl.symm

/-- A new variable. -/
theorem new_cells [Base] (hR : Rel O F m σ a w) (hO : ∀ g, w.heap.size ≤ g → O g) {t : TypeId} {cs : List V} {arr : Array Value} (hall : All2 (RL F w m σ.boxes) cs arr.toList)
    (hK : K (.ptr σ.boxes.length 0) (σ.newBox (.cells t cs)) = some r) : Out O F w m σ.boxes K r a (.pointer (some ⟨w.heap.size, 0, none⟩)) (w.alloc (.cells arr t)) := by
  have hnew := hR.new (w' := w.alloc (.cells arr t)) (hv := .pointer (some ⟨w.heap.size, 0, none⟩)) (x := .cells t cs) (by simp) (fun g hg => heap_alloc_old w _ g hg) ?_ (fun _ g hg => ?_) hO
  · refine .rel hK hnew ⟨by simp [St.newBox], w.heap.size, upd_same _ _ _, rfl⟩ (.alloc _) (Later.new fun g hg => heap_alloc_old w _ g (hR.boxes.fz g hg)) fun _ h => .inl h
  · refine ⟨w.heap.size, arr, upd_same _ _ _, heap_alloc_new w _, hall.mono fun _ _ hx => hx.later (Later.new fun g hg => heap_alloc_old w _ g (hR.boxes.fz g hg)), fun hf => ?_⟩
    have := hR.boxes.fz _ hf
    omega
  · injection hg with hg
    exact Nat.le_of_eq hg

theorem step_alloc [Base] (hT : TTok P tt) (hR : Rel O F m σ a w) (hO : ∀ g, w.heap.size ≤ g → O g) {t : TypeId} (ho : o.op = .alloc t)
    (h : ((tt.at t).ty.bind fun ty => K (.ptr σ.boxes.length 0) (σ.newBox (.cells t (zeros ty)))) = some r) : Yields P O F w m σ.boxes K r a o := by
  simp only [Option.bind_eq_some_iff] at h
  obtain ⟨ty, hty, hK⟩ := h
  obtain ⟨z, hz, _, hall⟩ := run_zero (w := w) hT hty
  refine ⟨_, _, ?_, new_cells hR hO (hall F w m σ.boxes) hK⟩
  simp only [execOp, ho]
  refine run_v ?_
  simp [Instr.alloc, hz, newVar, newRow]

theorem step_box [Base] (hR : Rel O F m σ a w) (hO : ∀ g, w.heap.size ≤ g → O g) {t : TypeId} {x : Operand} (ho : o.op = .box t x)
    (h : (bif Nat.blt 0 (tt.at t).size && ((σ.ev x).cells.length == (tt.at t).size && (σ.ev x).cells.all (V.solid σ.boxes)) then K (.ptr σ.boxes.length 0) (σ.newBox (.cells t (σ.ev x).cells)) else none) = some r) :
    Yields P O F w m σ.boxes K r a o := by
  rw [cond_eq_ite] at h
  split at h
  case isFalse => cases h
  rename_i hc
  simp only [Bool.and_eq_true, beq_iff_eq] at hc
  have hall := cells_sound hR.boxes (ev_sound hR.slots x) hc.2.2
  refine ⟨_, _, ?_, new_cells hR hO hall h⟩
  simp only [execOp, ho]
  refine run_v ?_
  simp [Instr.box, newVar, newRow]

/-! ### parts filled in -/
theorem fold_set (off : Nat) : ∀ (vs : List Value) (i : Nat) (arr : Array Value), off + i + vs.length ≤ arr.size →
    ((vs.zipIdx i).foldl (fun (cs : Array Value) p => cs.setIfInBounds (off + p.2) p.1) arr).toList = arr.toList.take (off + i) ++ vs ++ arr.toList.drop (off + i + vs.length)
  | [], i, arr, _ => by simp
  | v :: vs, i, arr, h => by
    have hl : off + i < arr.toList.length := by simp at h ⊢; omega
    rw [List.zipIdx_cons, List.foldl_cons, fold_set off vs (i + 1) _ (by simp at h ⊢; omega)]
    simp only [Array.toList_setIfInBounds]
    have e := list_seg_step arr.toList (off + i) v vs (by simp at h ⊢; omega)
    simpa [Nat.add_assoc] using e

theorem fill_sound [Base] {bs : List Box} (hb : RBs F w m bs) {place : Nat → Option (Nat × Nat)} : ∀ {ps : List (Nat × V)} {qs : List (Nat × Value)} {cells cs : List V} {arr : Array Value}, fill bs place cells ps = some cs → All2 (RL F w m bs) cells arr.toList →
    All2 (fun (p : Nat × V) (q : Nat × Value) => p.1 = q.1 ∧ RV F w m bs p.2 q.2) ps qs → ∃ arr', Instr.fill place arr qs = some arr' ∧ All2 (RL F w m bs) cs arr'.toList
  | [], qs, cells, cs, arr, h, hall, hps => by
    cases hps
    obtain rfl := Option.some.inj h
    exact ⟨arr, rfl, hall⟩
  | (i, v) :: ps, qs, cells, cs, arr, h, hall, hps => by
    cases hps with
    | cons hp hps =>
    rename_i q qs
    obtain ⟨j, c⟩ := q
    obtain ⟨rfl, hv⟩ := hp
    simp only [fill] at h
    split at h
    · cases h
    · rename_i off n hpl
      rw [cond_eq_ite] at h
      split at h
      case isFalse => cases h
      rename_i hc
      simp only [Bool.and_eq_true, beq_iff_eq] at hc
      simp only [Option.bind_eq_some_iff] at h
      obtain ⟨c1, hsp, hrest⟩ := h
      obtain ⟨hle, rfl⟩ := splice_some hsp
      have hvc := cells_sound hb hv hc.2
      have hl := hvc.length
      have ha := hall.length
      have hcs : c.cells.size = n := by rw [← Array.length_toList, ← hl, hc.1]
      have hfit : off + c.cells.size ≤ arr.size := by rw [← Array.length_toList, ← Array.length_toList, ← hl, ← ha]; exact hle
      have hfold : (c.cells.zipIdx.foldl (fun (cs : Array Value) (p : Value × Nat) => cs.setIfInBounds (off + p.2) p.1) arr).toList = arr.toList.take off ++ c.cells.toList ++ arr.toList.drop (off + c.cells.toList.length) := by
        have := fold_set off c.cells.toList 0 arr (by simpa using hfit)
        simp only [Nat.add_zero] at this
        rw [← this, ← Array.foldl_toList]
        simp
      obtain ⟨arr', hf, hr⟩ := fill_sound hb (arr := c.cells.zipIdx.foldl (fun (cs : Array Value) (p : Value × Nat) => cs.setIfInBounds (off + p.2) p.1) arr) hrest (by
        rw [hfold, ← hl]
        exact ((hall.take off).append hvc).append (hall.drop _)) hps
      refine ⟨arr', ?_, hr⟩
      simp only [Instr.fill, hpl]
      have : ¬ ((decide (c.cells.size ≠ n) || decide (off + c.cells.size > arr.size)) = true) := by simp [hcs]; omega
      simp only [this, if_false, Bool.false_eq_true]
      exact hf

theorem run_mapM_places {fs : Array Field} (h : ∀ (i : Nat) (f : Field), fs[i]? = some f → 0 < P.cellsOf f.type) :
    (fs.mapM (m := Sem) fun (f : Field) => do pure (f.offset, ← sizeOf f.type)).run P w = .ok (fs.map fun f => (f.offset, P.cellsOf f.type)) w := by
  have one : ∀ f : Field, 0 < P.cellsOf f.type → ((do pure (f.offset, ← sizeOf f.type) : Sem (Nat × Nat))).run P w = .ok (f.offset, P.cellsOf f.type) w := by
    intro f hf
    unfold Program.cellsOf at hf ⊢
    cases hi : P.info? f.type with
    | none => rw [hi] at hf; simp at hf
    | some i => simp [sizeOf, typeInfo, hi, Sem.run_pure]
  have key : ∀ l : List Field, (∀ f ∈ l, 0 < P.cellsOf f.type) → (l.mapM (m := Sem) fun (f : Field) => do pure (f.offset, ← sizeOf f.type)).run P w = .ok (l.map fun f => (f.offset, P.cellsOf f.type)) w := by
    intro l
    induction l with
    | nil => intro _; simp [Sem.run_pure]
    | cons f l ih =>
      intro hl
      rw [List.mapM_cons]
      simp only [Sem.run_bind, one f (hl f (by simp)), ih fun g hg => hl g (by simp [hg]), Result.andThen_ok, Sem.run_pure, List.map_cons]
  rw [Array.mapM_eq_mapM_toList, Sem.run_map, key fs.toList]
  · simp [← Array.toList_map]
  · intro f hf
    obtain ⟨i, hi, rfl⟩ := List.mem_iff_getElem.1 hf
    exact h i _ (by simp at hi; simp [hi])

theorem parts_sound [Base] (hs : All2 (RV F w m σ.boxes) σ.slots a.tmps.toList) (parts : Array (Nat × Operand)) :
    All2 (fun (p : Nat × V) (q : Nat × Value) => p.1 = q.1 ∧ RV F w m σ.boxes p.2 q.2) (parts.toList.map fun p => (p.1, σ.ev p.2)) (parts.map fun (i, x) => (i, a.eval x)).toList := by
  rw [Array.toList_map]
  generalize parts.toList = l
  induction l with
  | nil => exact .nil
  | cons p l ih => exact .cons ⟨rfl, ev_sound hs p.2⟩ ih

theorem TTok.struct {t : TypeId} {offs tys : List Nat} (hT : TTok P tt) (h : (tt.at t).kind = .struct offs tys) : ∃ fs : Array Field, P.underlying t = some (.struct fs) ∧ offs = fs.toList.map (·.offset) ∧ tys = fs.toList.map (·.type) ∧
    ∀ (i : Nat) f, fs[i]? = some f → 0 < P.cellsOf f.type ∧ placeOf offs (tt.at t).size i = some (f.offset, P.cellsOf f.type) := by
  have := hT.under t
  rw [h] at this
  exact this
theorem TTok.slice {t e : TypeId} (hT : TTok P tt) (h : (tt.at t).kind = .slice e) : P.underlying t = some (.slice e) ∧ 0 < (tt.at e).size := by
  have := hT.under t
  rw [h] at this
  exact this

theorem places_eq {offs : List Nat} {fs : Array Field} {sz : Nat} (ho : offs = fs.toList.map (·.offset))
    (hf : ∀ (i : Nat) f, fs[i]? = some f → 0 < P.cellsOf f.type ∧ placeOf offs sz i = some (f.offset, P.cellsOf f.type)) : ((fs.map fun f => (f.offset, P.cellsOf f.type))[·]?) = placeOf offs sz := by
  funext i
  rcases hi : fs[i]? with _ | f
  · have h1 : (fs.map fun f => (f.offset, P.cellsOf f.type))[i]? = none := by simp [hi]
    have h2 : offs[i]? = none := by rw [ho]; simp [hi]
    rw [h1]
    simp [placeOf, h2]
  · rw [(hf i f hi).2]
    simp [hi]

theorem step_build [Base] (hT : TTok P tt) (hR : Rel O F m σ a w) {t : TypeId} {parts : Array (Nat × Operand)} (ho : o.op = .build t parts)
    (h : (match (tt.at t).kind with
      | .struct offs _ => (tt.at t).ty.bind fun ty => (fill σ.boxes (placeOf offs (tt.at t).size) (zeros ty) (parts.toList.map fun p => (p.1, σ.ev p.2))).bind fun cs => K (.agg cs) σ
      | _ => none) = some r) : Yields P O F w m σ.boxes K r a o := by
  split at h
  · rename_i offs tys hk
    obtain ⟨fs, hu, hoffs, _, hf⟩ := hT.struct hk
    simp only [Option.bind_eq_some_iff] at h
    obtain ⟨ty, hty, cs, hfill, hK⟩ := h
    obtain ⟨z, hz, hzs, hall⟩ := run_zero (w := w) hT hty
    obtain ⟨arr, hfa, hr⟩ := fill_sound hR.boxes hfill (hall F w m σ.boxes) (parts_sound hR.slots parts)
    refine Yields.pure_ hR (cv := .agg arr) ?_ hK ⟨arr, rfl, hr⟩
    simp only [execOp, ho]
    refine run_v ?_
    have hm := run_mapM_places (P := P) (w := w) (fs := fs) fun i f hi => (hf i f hi).1
    simp only [Instr.build, Sem.run_bind, hz, run_underlying hu, hm, Result.andThen_ok, places_eq hoffs hf, hfa, Sem.run_pure]
  · cases h

theorem made_flat [Base] (z : Array Value) (n : Nat) (hz : 0 < z.size) : (madeCells z (n * z.size)).toList = (List.replicate n z.toList).flatten := by
  have hl : ((List.replicate n z.toList).flatten).length = n * z.size := by
    rw [flat_len (sz := z.size)]
    · simp
    · intro c hc
      rw [List.eq_of_mem_replicate hc]
      simp
  apply List.ext_getElem?
  intro k
  by_cases hk : k < n * z.size
  · have h1 : (madeCells z (n * z.size)).toList[k]? = some (z[k % z.size]!) := by simp [madeCells, hk]
    have hq : k / z.size < n := Nat.div_lt_of_lt_mul (by rw [Nat.mul_comm]; exact hk)
    have hm : k % z.size < z.size := Nat.mod_lt _ hz
    have h2 := flat_get (cs := List.replicate n z.toList) (sz := z.size) (j := k / z.size) (i := k % z.size) (c := z.toList) (u := z[k % z.size]!) (fun c hc => by rw [List.eq_of_mem_replicate hc]; simp) (by simp [hq]) (by simp [hm])
    have e : k / z.size * z.size + k % z.size = k := by rw [Nat.mul_comm]; exact Nat.div_add_mod _ _
    rw [e] at h2
    rw [h1, h2]
  · rw [List.getElem?_eq_none (by simp [size_madeCells]; omega), List.getElem?_eq_none (by omega)]

theorem All2.flatten [Base] {α β : Type} {R : α → β → Prop} {xs : List α} {ys : List β} (h : All2 R xs ys) (n : Nat) : All2 R (List.replicate n xs).flatten (List.replicate n ys).flatten := by
  induction n with
  | zero => exact .nil
  | succ n ih => rw [List.replicate_succ, List.replicate_succ, List.flatten_cons, List.flatten_cons]; exact h.append ih

theorem listOf_sound [Base] {ty : Ty} : ∀ {n : Nat} {cs : List V} {vals : List Value} {l : List ty.D}, listOf ty (chunk ty.size n cs) = some l → All2 (RL F w m bs) cs vals → cs.length = n * ty.size → Reps F w ty l vals ∧ l.length = n
  | 0, cs, vals, l, h, hall, hlen => by
    have : cs = [] := List.eq_nil_of_length_eq_zero (by simpa using hlen)
    subst this
    cases hall
    obtain rfl := Option.some.inj h
    exact ⟨⟨[], rfl, .nil⟩, rfl⟩
  | n + 1, cs, vals, l, h, hall, hlen => by
    simp only [chunk, listOf, Option.bind_eq_some_iff, Option.some.injEq] at h
    obtain ⟨x, hx, l', hl', rfl⟩ := h
    have hs : (n + 1) * ty.size = n * ty.size + ty.size := Nat.succ_mul _ _
    obtain ⟨⟨css, hfl, hcs⟩, hn⟩ := listOf_sound hl' (hall.drop ty.size) (by simp; omega)
    have hx' := pack1_sound hx (hall.take ty.size)
    refine ⟨⟨vals.take ty.size :: css, ?_, .cons hx' hcs⟩, by simp [hn]⟩
    rw [List.flatten_cons, ← hfl, List.take_append_drop]

theorem fill_length [Base] {place : Nat → Option (Nat × Nat)} {bs : List Box} : ∀ {ps : List (Nat × V)} {cells cs : List V}, fill bs place cells ps = some cs → cs.length = cells.length
  | [], cells, cs, h => by obtain rfl := Option.some.inj h; rfl
  | (i, v) :: ps, cells, cs, h => by
    simp only [fill] at h
    split at h
    · cases h
    · rw [cond_eq_ite] at h
      split at h
      case isFalse => cases h
      simp only [Option.bind_eq_some_iff] at h
      obtain ⟨c1, hsp, hrest⟩ := h
      obtain ⟨hle, rfl⟩ := splice_some hsp
      rw [fill_length hrest]
      simp
      omega

theorem zeros_len (ty : Ty) : (zeros ty).length = ty.size := by
  induction ty with
  | pair a b iha ihb => simp [zeros, Ty.size, iha, ihb]
  | _ => rfl

theorem Out.of_froze [Base] {v : Value} (hf : Froze O F F' m σ bs' a w) (h : Out O F' w m bs' K r a v w') : Out O F w m σ.boxes K r a v w' := by
  obtain ⟨x, σ', F2, m', hK, hR, hv, hk, h1, h2⟩ := h
  exact ⟨x, σ', F2, m', hK, hR, hv, hk, hf.later.trans h1, fun g hg => by
    rcases h2 g hg with hg | hg
    · exact hf.fz' g hg
    · exact .inr hg⟩

/-- A new row. -/
theorem new_row [Base] (hR : Rel O F m σ a w) (hO : ∀ g, w.heap.size ≤ g → O g) {e : TypeId} {ty : Ty} {l : List ty.D} {xs : List Value} {hv : Value} (hsz : w.heap.size ≤ w'.heap.size) (hw : ∀ g, g < w.heap.size → w'.heap[g]? = w.heap[g]?)
    (hos : w'.os = w.os) (htape : w'.tape = w.tape) (hout : w'.output = w.output)
    (hown : w'.ownsRow 0 e ty.size hv l.length xs) (hr : Reps F w ty l xs) (hat : ∀ g, blk hv = some g → w.heap.size ≤ g)
    (hK : K (.own σ.boxes.length) (σ.newBox (.row e ty l)) = some r) : Out O F w m σ.boxes K r a hv w' := by
  have hFo : ∀ g, F g → w'.heap[g]? = w.heap[g]? := fun g hg => hw g (hR.boxes.fz g hg)
  have hnew := hR.new (w' := w') (hv := hv) (x := .row e ty l) hsz hw ⟨xs, by rw [upd_same]; exact hown, hr.later (fun _ h => h) hFo, fun g hg hf => by
    rw [upd_same] at hg
    have := hat g hg
    have := hR.boxes.fz g hf
    omega⟩ (fun _ g hg => hat g hg) hO
  exact .rel hK hnew ⟨by simp [St.newBox], (upd_same _ _ _).symm⟩ ⟨hos, htape, hout, hsz, fun g hg _ => hw g hg⟩ (Later.new hFo) fun _ h => .inl h

theorem step_buildSlice [Base] (hT : TTok P tt) (hR : Rel O F m σ a w) (hO : ∀ g, w.heap.size ≤ g → O g) {t : TypeId} {len : Nat} {parts : Array (Nat × Operand)} (ho : o.op = .buildSlice t len parts)
    (h : (match (tt.at t).kind with
      | .slice e => (tt.at e).ty.bind fun (ty : Ty) =>
        (fill σ.boxes (fun j => some (j * ty.size, ty.size)) (List.replicate len (zeros ty)).flatten (parts.toList.map fun p => (p.1, σ.ev p.2))).bind fun cs =>
        (listOf ty (chunk ty.size len (frzs σ.boxes cs).1)).bind fun l =>
        chk (Nat.ble (len * ty.size) 16777216) (K (.own (frzs σ.boxes cs).2.length) ⟨σ.slots, (frzs σ.boxes cs).2 ++ [.row e ty l]⟩)
      | _ => none) = some r) : Yields P O F w m σ.boxes K r a o := by
  split at h
  · rename_i e hk
    obtain ⟨hu, h0⟩ := hT.slice hk
    simp only [Option.bind_eq_some_iff] at h
    obtain ⟨ty, hty, cs, hfill, l, hl, h⟩ := h
    obtain ⟨hsm, hK⟩ := chk_some h
    have hsm : len * ty.size ≤ 16777216 := Nat.le_of_ble_eq_true hsm
    obtain ⟨hsz, hby, inf, z, hi, hz, hall⟩ := hT.zero e ty hty
    have hzs : z.cells.size = ty.size := by
      have := (hall F w m σ.boxes).length
      rw [zeros_len] at this
      simpa using this.symm
    have his : inf.size = ty.size := by
      obtain ⟨inf', hi', hs', _⟩ := hT.known e h0
      rw [hi] at hi'
      injection hi' with hi'
      subst hi'
      omega
    have hpos := ty.size_pos
    obtain ⟨arr, hfa, hr⟩ := fill_sound hR.boxes (arr := madeCells z.cells (len * z.cells.size)) hfill (by
      rw [made_flat _ _ (by omega)]
      exact (hall F w m σ.boxes).flatten len) (parts_sound hR.slots parts)
    have hlen : cs.length = len * ty.size := by
      have h1 := ((hall F w m σ.boxes).flatten len).length
      rw [fill_length hfill, h1, ← made_flat _ _ (by omega)]
      simp [size_madeCells, hzs]
    obtain ⟨F', hf, hr'⟩ := frzs_sound hR hr
    obtain ⟨hreps, hll⟩ := listOf_sound hl hr' (by rw [frzs_len, hlen])
    have hal : arr.size = len * ty.size := by rw [← Array.length_toList, ← hr.length, hlen]
    have hrun : (Instr.buildSlice t len (parts.map fun (i, x) => (i, a.eval x))).run P w = .ok (.slice (some ⟨w.heap.size, 0, none⟩) len len) (w.alloc (.cells arr e)) := by
      have hplace : (fun (i : Nat) => some (i * ty.size, ty.size)) = fun i => some (i * inf.size, inf.size) := by rw [his]
      rw [hplace, hzs, ← his] at hfa
      by_cases h00 : len * inf.size = 0
      · rw [h00] at hfa
        simp only [madeCells, Array.range_zero', Array.map_empty] at hfa
        simp [Instr.buildSlice, run_underlying hu, sizeOf, typeInfo, hi, h00, Sem.run_pure, newRow, Array.range_zero']
        rw [Array.toList_map] at hfa
        rw [hfa]
        simp
      · exact run_buildSlice (P := P) w t e len _ arr inf z hu hi hz (by rw [his]; omega) h00 hfa
    refine ⟨_, _, by simpa only [execOp, ho] using run_v hrun, Out.of_froze hf (new_row (σ := ⟨σ.slots, (frzs σ.boxes cs).2⟩) hf.rel hO (by simp) (fun g hg => heap_alloc_old w _ g hg) rfl rfl rfl (xs := arr.toList) ?_ (hreps.later (fun _ h => h) fun _ _ => rfl) ?_ hK)⟩
    · rw [hll]
      exact World.ownsRow_lit w arr len (Nat.zero_le _) (by simp only [maxLen]; have := Nat.le_mul_of_pos_right len hpos; omega) hal
    · intro g hg
      injection hg with hg
      exact Nat.le_of_eq hg
  · cases h

theorem madeCells_reps [Base] (ty : Ty) {z : Value} (hz : z.cells.size = ty.size) (hall : ∀ F w m bs, All2 (RL F w m bs) (zeros ty) z.cells.toList) (n : Nat) : Reps F w ty (List.replicate n ty.dflt) (madeCells z.cells (n * ty.size)).toList := by
  have hpk : ∀ (ty : Ty) (vs : List V), pack ty (zeros ty ++ vs) = some (ty.dflt, vs) := by
    intro ty
    induction ty with
    | pair a b iha ihb => intro vs; simp [pack, zeros, iha, ihb, Ty.dflt]
    | int k => intro vs; simp [pack, zeros, Ty.dflt]
    | gval s v => intro vs; simp [pack, packG, zeros, Ty.dflt, asSlc, GVal.zero]
    | _ => intro vs; simp [pack, zeros, Ty.dflt, asSlc]
  have h1 : pack1 ty (zeros ty) = some ty.dflt := by
    have := hpk ty []
    simp only [List.append_nil] at this
    simp [pack1, this]
  have hrep : Rep F w ty ty.dflt z.cells.toList := pack1_sound (m := fun _ => undef) (bs := []) h1 (hall F w _ _)
  rw [← hz, made_flat _ _ (by rw [hz]; exact ty.size_pos)]
  exact ⟨_, rfl, All2.replicate hrep n⟩

theorem step_makeSlice [Base] (hT : TTok P tt) (hR : Rel O F m σ a w) (hO : ∀ g, w.heap.size ≤ g → O g) {t : TypeId} {x y : Operand} (ho : o.op = .makeSlice t x y)
    (h : (match (tt.at t).kind, σ.ev x, σ.ev y with
      | .slice e, .int _ n, .int _ k => (tt.at e).ty.bind fun ty => chk (decide (0 ≤ n)) <| chk (decide (k = n)) <| chk (lim n.toNat (tt.at e).bytes) <|
        K (.own σ.boxes.length) (σ.newBox (.row e ty (List.replicate n.toNat ty.dflt)))
      | _, _, _ => none) = some r) : Yields P O F w m σ.boxes K r a o := by
  have hx := ev_sound hR.slots x
  have hy := ev_sound hR.slots y
  split at h
  · rename_i e k1 n k2 k hk hvx hvy
    rw [hvx] at hx
    rw [hvy] at hy
    obtain ⟨hu, h0⟩ := hT.slice hk
    simp only [Option.bind_eq_some_iff] at h
    obtain ⟨ty, hty, h⟩ := h
    obtain ⟨hn, h⟩ := chk_some h
    obtain ⟨hkn, h⟩ := chk_some h
    obtain ⟨hlim, hK⟩ := chk_some h
    have hn : 0 ≤ n := by simpa using hn
    obtain rfl : k = n := by simpa using hkn
    obtain ⟨hsz, hby, inf, z, hi, hz, hall⟩ := hT.zero e ty hty
    obtain ⟨inf', hi', hs', hb'⟩ := hT.known e h0
    rw [hi] at hi'
    injection hi' with hi'
    subst hi'
    have hlim : k.toNat * inf.bytes ≤ 140737488355328 := by rw [hb']; simpa [lim] using hlim
    have hzs : z.cells.size = ty.size := by
      have := (hall F w m σ.boxes).length
      rw [zeros_len] at this
      simpa using this.symm
    obtain ⟨w', hrun, hown, hg⟩ := run_make_full (P := P) w 0 t e inf z ty.size hu hi hz (by omega) k1 k2 k.toNat (by rw [Nat.mul_comm]; omega) (by
      simp only [maxLen]
      have := Nat.le_mul_of_pos_right k.toNat (show 0 < inf.bytes by omega)
      omega) (Nat.zero_le _)
    have hkk : ((k.toNat : Nat) : Int) = k := Int.toNat_of_nonneg hn
    rw [hkk] at hrun
    refine ⟨.slice (some ⟨w.heap.size, 0, none⟩) k.toNat k.toNat, w', ?_, new_row hR hO hg.size (fun g hlt => hg.block g hlt (by simp)) hg.os hg.tape hg.output (xs := (madeCells z.cells (k.toNat * ty.size)).toList) ?_ ?_ ?_ hK⟩
    · simp only [execOp, ho, RV.int_inv hx, RV.int_inv hy]
      exact run_v hrun
    · rw [List.length_replicate]; exact hown
    · exact madeCells_reps ty hzs hall _
    · intro g hg'
      injection hg' with hg'
      exact Nat.le_of_eq hg'
  · cases h
end Go.Lin
end

/- Slices, strings, built-in functions. -/
section
namespace Go.Lin

variable {F F' : Fz} {w w' : World} {m m' : Nat → Value} {bs bs' : List Box} {O : Nat → Prop} {σ : St} {a : Act} {P : Program} {tt : TT} {ρ : Type} {r : ρ} {K : V → St → Option ρ} {o : Oper}

theorem Rep.one {t : Ty} {x : t.D} {cs : List Value} (h : Rep F w t x cs) : ∀ c ∈ cs, c.oneCell' = true := by
  induction h with
  | int => simp [Value.oneCell']
  | bool => simp [Value.oneCell']
  | str => simp [Value.oneCell']
  | slice => simp [Value.oneCell']
  | pair _ _ ih1 ih2 =>
    intro c hc
    rcases List.mem_append.1 hc with hc | hc
    · exact ih1 c hc
    · exact ih2 c hc
  | gval _ ih => exact ih
theorem Reps.one [Base] {t : Ty} {l : List t.D} {xs : List Value} (h : Reps F w t l xs) : ∀ c ∈ xs, c.oneCell' = true := by
  obtain ⟨cs, rfl, hh⟩ := h
  intro c hc
  obtain ⟨d, hd, hc⟩ := List.mem_flatten.1 hc
  obtain ⟨x, _, hr⟩ := hh.mem hd
  exact hr.one c hc

/-- What a slice's value shows, in memory. -/
def Shows (F : Fz) (w : World) (t : Ty) (l : List t.D) (c : Value) : Prop :=
  ∃ A cap, c = .slice A l.length cap ∧ l.length ≤ cap ∧ cap ≤ maxLen ∧
    (0 < l.length → ∃ ad : Addr, A = some ad ∧ ∀ j (hj : j < l.length), ∃ cs, Rep F w t (l[j]'hj) cs ∧ ∀ (i : Nat) u, cs[i]? = some u → w.cell? (ad.add (j * t.size + i)) = some u)

theorem Shows.of_rep [Base] {e : TypeId} {t : Ty} {l : List t.D} {c : Value} (h : Rep F w (.slice e t) l [c]) : Shows F w t l c := by
  obtain ⟨A, cap, ad, vs, he, hc, hm, hA, hel, hcell⟩ := h.slice_inv
  simp at he
  exact ⟨A, cap, he, hc, hm, fun h0 => ⟨ad, (hA h0).1, fun j hj => ⟨vs j, hel j hj, hcell j hj⟩⟩⟩
theorem Shows.of_row [Base] {b : Nat} {e : TypeId} {t : Ty} {l : List t.D} (h : RB F w m bs b (.row e t l)) : Shows F w t l (m b) := by
  obtain ⟨A, cap, hv, hc, hm, hcells⟩ := row_cells h
  exact ⟨A, cap, hv, hc, hm, fun h0 => by
    obtain ⟨g, hA, _, hel⟩ := hcells h0
    exact ⟨⟨g, 0, none⟩, hA, hel⟩⟩

theorem slice_shows [Base] (hb : RBs F w m σ.boxes) {e : TypeId} {t : Ty} {v : V} {l : List t.D} {c : Value} (h : σ.slice e t v = some l) (hv : RV F w m σ.boxes v c) : Shows F w t l c := by
  cases v with
  | own b =>
    obtain ⟨hlt, rfl⟩ := hv
    simp only [St.slice] at h
    split at h
    · rename_i e' t' l' hbox
      split at h
      · rename_i hh
        obtain ⟨rfl, rfl⟩ := hh
        obtain rfl := Option.some.inj h
        exact .of_row (hb.box b _ (getD_box hbox (by simp)))
      · cases h
    · rename_i e' t' l' hbox
      split at h
      · rename_i hh
        obtain ⟨rfl, rfl⟩ := hh
        obtain rfl := Option.some.inj h
        exact .of_rep (e := e') (hb.box b _ (getD_box hbox (by simp)))
      · cases h
    · cases h
  | slc e' t' l' => exact .of_rep (e := e) (asSlc_sound (m := m) (bs := σ.boxes) (v := .slc e' t' l') h hv)
  | nils => exact .of_rep (e := e) (asSlc_sound (m := m) (bs := σ.boxes) (v := .nils) h hv)
  | _ => simp [St.slice, asSlc] at h

/-- The cells that a slice shows, one behind the other. -/
theorem Shows.flat [Base] {t : Ty} {l : List t.D} {c : Value} (h : Shows F w t l c) : ∃ A cap xs, c = .slice A l.length cap ∧ l.length ≤ cap ∧ cap ≤ maxLen ∧ Reps F w t l xs ∧ (∀ ad, A = some ad → ∀ (j : Nat) u, xs[j]? = some u → w.cell? (ad.add j) = some u) ∧ (0 < l.length → ∃ ad, A = some ad) := by
  obtain ⟨A, cap, hc, h1, h2, h3⟩ := h
  by_cases h0 : 0 < l.length
  · obtain ⟨ad, rfl, hel⟩ := h3 h0
    obtain ⟨cs, hcs⟩ := choose_fn [] hel
    have hall : All2 (Rep F w t) l ((List.range l.length).map cs) := by
      refine .of_get (by simp) fun i x y hx hy => ?_
      have hi := get_lt hx
      simp [hi] at hy
      subst hy
      have := (hcs i hi).1
      rw [List.getElem?_eq_getElem hi] at hx
      obtain rfl := Option.some.inj hx
      exact this
    refine ⟨some ad, cap, ((List.range l.length).map cs).flatten, hc, h1, h2, ⟨_, rfl, hall⟩, fun ad' he j u hu => ?_, fun _ => ⟨ad, rfl⟩⟩
    obtain rfl := Option.some.inj he
    have hlens := Reps.lens hall
    have hlt := get_lt hu
    rw [flat_len hlens] at hlt
    simp at hlt
    have hpos := t.size_pos
    have hq : j / t.size < l.length := Nat.div_lt_of_lt_mul (by rw [Nat.mul_comm]; exact hlt)
    have hm := Nat.mod_lt j hpos
    have e : j / t.size * t.size + j % t.size = j := by rw [Nat.mul_comm]; exact Nat.div_add_mod _ _
    have hlen := ((hcs _ hq).1).len
    have h4 := flat_get (cs := (List.range l.length).map cs) (j := j / t.size) (i := j % t.size) (c := cs (j / t.size)) (u := (cs (j / t.size))[j % t.size]'(by omega)) hlens (by simp [hq]) (List.getElem?_eq_getElem _)
    rw [e, hu] at h4
    rw [← e, Option.some.inj h4]
    exact (hcs _ hq).2 _ _ (List.getElem?_eq_getElem _)
  · have hl : l = [] := List.eq_nil_of_length_eq_zero (by omega)
    subst hl
    exact ⟨A, cap, [], hc, h1, h2, ⟨[], rfl, .nil⟩, fun ad _ j u hu => by simp at hu, fun h => by simp at h⟩

/-! ### conversions -/
theorem ofBytes_fold (l : List Int) : (l.foldl (fun (r : ByteArray) n => r.push (UInt8.ofNat n.toNat)) ByteArray.empty) = ofBytes l := by
  have key : ∀ (l : List Int) (s : ByteArray), l.foldl (fun (r : ByteArray) n => r.push (UInt8.ofNat n.toNat)) s = ⟨s.data ++ (l.map fun n => UInt8.ofNat n.toNat).toArray⟩ := by
    intro l
    induction l with
    | nil => intro s; simp
    | cons n l ih =>
      intro s
      rw [List.foldl_cons, ih]
      simp [ByteArray.push]
  rw [key]
  show (⟨#[] ++ _⟩ : ByteArray) = _
  rw [Array.empty_append]
  rfl

theorem flat_ints [Base] {k : IntKind} {l : List Int} {xs : List Value} (h : Reps F w (.int k) l xs) : xs = l.map (Value.int k) := by
  obtain ⟨cs, rfl, hh⟩ := h
  induction hh with
  | nil => rfl
  | cons h _ ih =>
    rw [List.flatten_cons, h.int_inv, ih]
    rfl

theorem TTok.int {t : TypeId} {k : IntKind} (hT : TTok P tt) (h : (tt.at t).kind = .int k) : P.underlying t = some (.int k) := by
  have := hT.under t
  rw [h] at this
  exact this
theorem TTok.str {t : TypeId} (hT : TTok P tt) (h : (tt.at t).kind = .str) : P.underlying t = some .string := by
  have := hT.under t
  rw [h] at this
  exact this

theorem step_convert [Base] (hT : TTok P tt) (hR : Rel O F m σ a w) {s d : TypeId} {x : Operand} (ho : o.op = .convert s d x) (h : convertTo tt s d (σ.ev x) σ K = some r) : Yields P O F w m σ.boxes K r a o := by
  have hx := ev_sound hR.slots x
  unfold convertTo at h
  split at h
  · rename_i k1 k2 k3 n hs hd hv
    rw [hv] at hx
    refine Yields.pure_ hR (cv := .int k2 (k2.wrap n)) ?_ h rfl
    simp only [execOp, ho, RV.int_inv hx]
    exact run_v (by simp [convert, run_underlying (hT.int hs), run_underlying (hT.int hd), Conv.intToInt, Sem.run_pure])
  · rename_i k1 k3 n hs hd hv
    rw [hv] at hx
    refine Yields.pure_ hR (cv := .string (Utf8.encode n)) ?_ h rfl
    simp only [execOp, ho, RV.int_inv hx]
    exact run_v (by simp [convert, run_underlying (hT.int hs), run_underlying (hT.str hd), Conv.intToString, Sem.run_pure])
  · rename_i b hs hd hv
    rw [hv] at hx
    refine Yields.pure_ hR (cv := .string b) ?_ h rfl
    simp only [execOp, ho, RV.str_inv hx]
    exact run_v (by simp [convert, run_underlying (hT.str hs), run_underlying (hT.str hd), Sem.run_pure])
  · rename_i e hs hd
    split at h
    · rename_i he
      simp only [Option.bind_eq_some_iff] at h
      obtain ⟨l, hl, hK⟩ := h
      obtain ⟨A, cap, xs, hc, _, _, hreps, hcell, hsome⟩ := (slice_shows hR.boxes hl hx).flat
      refine Yields.pure_ hR (cv := .string (ofBytes l)) ?_ hK rfl
      simp only [execOp, ho, hc]
      refine run_v ?_
      rw [run_convert_bytes_string w s d e A l.length cap (hT.slice hs).1 (hT.int he) (hT.str hd)]
      cases A with
      | none =>
        have : ¬ 0 < l.length := fun h0 => by obtain ⟨ad, h⟩ := hsome h0; cases h
        have : l = [] := List.eq_nil_of_length_eq_zero (by omega)
        subst this
        simp [Conv.bytesToString, Sem.run_pure, ofBytes]
        rfl
      | some ad =>
        have hxl := hreps.length
        have hload := run_loadCells_list (P := P) w ad xs (hcell ad rfl)
        rw [flat_ints hreps] at hload
        simp only [List.length_map] at hload
        rw [run_bytesToString w ad l.length cap l hload, ofBytes_fold]
    · cases h
  · cases h

theorem step_makeFunc [Base] (hR : Rel O F m σ a w) {f : FuncId} {first caps : Array Operand} (ho : o.op = .makeFunc (.func f) first caps)
    (h : (bif first.toList.isEmpty && (caps.toList.map σ.ev).all V.isPtr then K (.fn f (caps.toList.map σ.ev)) σ else none) = some r) : Yields P O F w m σ.boxes K r a o := by
  rw [cond_eq_ite] at h
  split at h
  case isFalse => cases h
  rename_i hc
  simp only [Bool.and_eq_true, List.isEmpty_iff] at hc
  obtain ⟨hf, hs⟩ := hc
  have hf : first = #[] := by simpa using hf
  have hs := List.all_eq_true.1 hs
  subst hf
  refine Yields.pure_ hR (cv := .func (.func f) #[] (caps.map a.eval)) ?_ h ⟨_, rfl, ?_⟩
  · simp only [execOp, ho]
    exact run_v (by simp [Instr.makeFunc, Sem.run_pure])
  · rw [Array.toList_map]
    revert hs
    generalize caps.toList = l
    intro hs
    induction l with
    | nil => exact .nil
    | cons x l ih =>
      refine .cons ?_ (ih fun v hv => hs v (by simp at hv ⊢; exact .inr hv))
      have h1 := hs (σ.ev x) (by simp)
      have h2 := ev_sound hR.slots x
      revert h1 h2
      generalize σ.ev x = v
      intro h1 h2
      cases v <;> first | (cases h1; done) | exact h2

/-! ### parts, places -/
theorem fieldPlace_run {P : Program} {ad : Addr} {f : Field} (h : 0 < P.cellsOf f.type) : (fieldPlace ad f).run P w = .ok (ad.add f.offset) w := by
  unfold Program.cellsOf at h
  cases hi : P.info? f.type with
  | none => rw [hi] at h; simp at h
  | some i =>
    rw [hi] at h
    have h0 : ¬ i.size = 0 := by simp at h; omega
    simp [fieldPlace, sizeOf, typeInfo, hi, h0, Sem.run_pure]

theorem step_fieldAddr [Base] (hT : TTok P tt) (hR : Rel O F m σ a w) {t : TypeId} {x : Operand} {f : Nat} (ho : o.op = .fieldAddr t x f)
    (h : (match (tt.at t).kind with | .struct offs _ => (offs[f]?).bind fun off => (fieldOf σ.boxes (σ.ev x) off).bind fun v => K v σ | _ => none) = some r) : Yields P O F w m σ.boxes K r a o := by
  have hx := ev_sound hR.slots x
  split at h
  · rename_i offs tys hk
    obtain ⟨fs, hu, hoffs, _, hf⟩ := hT.struct hk
    simp only [Option.bind_eq_some_iff] at h
    obtain ⟨off, hoff, v, hv, hK⟩ := h
    have hfd : ∃ fd, fs[f]? = some fd ∧ fd.offset = off := by
      rw [hoffs] at hoff
      simp only [List.getElem?_map, Option.map_eq_some_iff] at hoff
      obtain ⟨fd, h1, h2⟩ := hoff
      exact ⟨fd, by simpa using h1, h2⟩
    obtain ⟨fd, hfd, rfl⟩ := hfd
    have go : ∀ ad : Addr, a.eval x = .pointer (some ad) → (execOp a.eval o).run P w = .ok (.value (.pointer (some (ad.add fd.offset)))) w := by
      intro ad hc
      simp only [execOp, ho, hc]
      refine run_v ?_
      simp [Instr.fieldAt, run_underlying hu, hfd, Instr.sureAddr, fieldPlace_run (hf f fd hfd).1]
    revert hx hv
    generalize σ.ev x = vx
    intro hx hv
    cases vx <;> simp only [fieldOf] at hv <;> try (cases hv; done)
    · rename_i b o'
      obtain rfl := Option.some.inj hv
      obtain ⟨hlt, g, hm, hc⟩ := hx
      refine Yields.pure_ hR (go _ hc) hK ⟨hlt, g, hm, ?_⟩
      rw [← add_at, add_add, add_at]
    · rename_i b i o'
      obtain ⟨hlt, hi, hm⟩ := hx
      split at hv
      · rename_i e t l hbx
        obtain rfl := Option.some.inj hv
        rw [hbx] at hm
        obtain ⟨ad, c, h1, h2, hc⟩ := hm
        refine Yields.pure_ hR (go _ hc) hK ⟨hlt, hi, ?_⟩
        rw [hbx]
        exact ⟨ad, c, h1, h2, by rw [add_add, Nat.add_assoc]⟩
      · rename_i e t l hbx
        obtain rfl := Option.some.inj hv
        rw [hbx] at hm
        obtain ⟨ad, c, h1, h2, hc⟩ := hm
        refine Yields.pure_ hR (go _ hc) hK ⟨hlt, hi, ?_⟩
        rw [hbx]
        exact ⟨ad, c, h1, h2, by rw [add_add, Nat.add_assoc]⟩
      · cases hv
    · rename_i t' y o'
      obtain rfl := Option.some.inj hv
      obtain ⟨ad, cs, hc, hF, hr, hcell⟩ := hx
      refine Yields.pure_ hR (go _ hc) hK ⟨ad, cs, by rw [add_add], hF, hr, hcell⟩
  · cases h

theorem run_part [Base] (hT : TTok P tt) {t : TypeId} (h0 : 0 < (tt.at t).size) {arr : Array Value} {cs c : List V} {off : Nat} {v : V} (hall : All2 (RL F w m bs) cs arr.toList) (hp : part cs off (tt.at t).size = some c)
    (hv : val (tt.at t).agg c = some v) : ∃ cv, (Go.part t arr off).run P w = .ok cv w ∧ RV F w m bs v cv := by
  obtain ⟨hle, rfl⟩ := part_some hp
  have hsub := (hall.drop off).take (tt.at t).size
  have hla := hall.length
  cases hag : (tt.at t).agg with
  | true =>
    rw [hag] at hv
    obtain rfl := Option.some.inj hv
    refine ⟨.agg (arr.extract off (off + (tt.at t).size)), ?_, _, rfl, ?_⟩
    · simp [Go.part, run_isAgg hT h0, hag, run_sizeOf_ hT h0]
    · have : (arr.extract off (off + (tt.at t).size)).toList = (arr.toList.drop off).take (tt.at t).size := by
        rw [Array.toList_extract, List.extract_eq_take_drop]
        congr 1
        omega
      rw [this]
      exact hsub
  | false =>
    rw [hag] at hv
    revert hv hsub
    generalize hq : (cs.drop off).take (tt.at t).size = q
    intro hv hsub
    cases q with
    | nil => cases hv
    | cons x q =>
      cases q with
      | cons => cases hv
      | nil =>
        obtain rfl := Option.some.inj hv
        have hx : cs[off]? = some x := by
          have h1 : ((cs.drop off).take (tt.at t).size)[0]? = some x := by rw [hq]; rfl
          rw [List.getElem?_take_of_lt h0] at h1
          simpa using h1
        obtain ⟨y, hy, hr⟩ := hall.get off x hx
        refine ⟨y, ?_, ?_⟩
        · have : arr[off]? = some y := by simpa using hy
          simp [Go.part, run_isAgg hT h0, hag, this, Sem.run_pure]
        · cases x <;> first | exact hr | exact hr.elim | exact trivial

theorem step_field [Base] (hT : TTok P tt) (hR : Rel O F m σ a w) {t : TypeId} {x : Operand} {f : Nat} (ho : o.op = .field t x f)
    (h : (match (tt.at t).kind, σ.ev x with
      | .struct offs tys, .agg cs => (offs[f]?).bind fun off => (tys[f]?).bind fun ty => bif Nat.blt 0 (tt.at ty).size then (part cs off (tt.at ty).size).bind fun c => (val (tt.at ty).agg c).bind fun v => K v σ else none
      | _, _ => none) = some r) : Yields P O F w m σ.boxes K r a o := by
  have hx := ev_sound hR.slots x
  split at h
  · rename_i offs tys cs hk hv
    rw [hv] at hx
    obtain ⟨arr, hc, hall⟩ := hx
    obtain ⟨fs, hu, hoffs, htys, hf⟩ := hT.struct hk
    simp only [Option.bind_eq_some_iff] at h
    obtain ⟨off, hoff, ty, hty, h⟩ := h
    rw [cond_eq_ite] at h
    split at h
    case isFalse => cases h
    rename_i h0
    have h0 : 0 < (tt.at ty).size := by simpa [Nat.blt_eq] using h0
    simp only [Option.bind_eq_some_iff] at h
    obtain ⟨c, hp, v, hvl, hK⟩ := h
    have hfd : ∃ fd, fs[f]? = some fd ∧ fd.offset = off ∧ fd.type = ty := by
      rw [hoffs] at hoff
      rw [htys] at hty
      simp only [List.getElem?_map, Option.map_eq_some_iff] at hoff hty
      obtain ⟨fd, h1, h2⟩ := hoff
      obtain ⟨fd', h1', h2'⟩ := hty
      rw [h1] at h1'
      obtain rfl := Option.some.inj h1'
      exact ⟨fd, by simpa using h1, h2, h2'⟩
    obtain ⟨fd, hfd, rfl, rfl⟩ := hfd
    obtain ⟨cv, hrun, hr⟩ := run_part hT h0 hall hp hvl
    refine Yields.pure_ hR ?_ hK hr
    simp only [execOp, ho, hc]
    refine run_v ?_
    simp only [Instr.field, Sem.run_bind, run_underlying hu, Result.andThen_ok, hfd, asAgg, Sem.run_pure, hrun]
  · cases h

theorem elem_add {sz : Nat} (ad : Addr) (i : Nat) : ad.add (i * sz + 0) = ad.add (i * sz) := by rw [Nat.add_zero]

theorem run_indexAt [Base] {t e : TypeId} {A : Option Addr} {len cap : Nat} {k : IntKind} {n : Int} {ad : Addr} (hT : TTok P tt) (hk : (tt.at t).kind = .slice e) (hA : A = some ad) (h0 : 0 ≤ n) (h1 : n < len) :
    (Instr.indexAt t (.slice A len cap) (.int k n)).run P w = .ok (.pointer (some (ad.add (n.toNat * (tt.at e).size)))) w := by
  subst hA
  obtain ⟨hu, hs⟩ := hT.slice hk
  simp [Instr.indexAt, asIntOf, run_underlying hu, h0, h1, run_sizeOf_ hT hs]

theorem step_indexAddr [Base] (hT : TTok P tt) (hR : Rel O F m σ a w) {t : TypeId} {x i : Operand} (ho : o.op = .indexAddr t x i)
    (h : (match (tt.at t).kind, σ.ev i with | .slice e, .int _ n => indexC (tt.at e).size (σ.ev x) n σ K | _, _ => none) = some r) : Yields P O F w m σ.boxes K r a o := by
  have hx := ev_sound hR.slots x
  have hi := ev_sound hR.slots i
  split at h
  · rename_i e k n hk hvi
    rw [hvi] at hi
    have shared : ∀ (e' : TypeId) (t' : Ty) (l : List t'.D), Rep F w (.slice e' t') l [a.eval x] → (t'.size == (tt.at e).size) = true → 0 ≤ n → n < (l.length : Int) → K (.sp t' (elt l n) 0) σ = some r → Yields P O F w m σ.boxes K r a o := by
      intro e' t' l hrep hsz h0 h1 hK
      obtain ⟨A, c, ad, vs, he, _, _, hA, hel, hcell⟩ := hrep.slice_inv
      simp at he
      have hil : n.toNat < l.length := by omega
      obtain ⟨rfl, hF⟩ := hA (by omega)
      have hsz : t'.size = (tt.at e).size := by simpa using hsz
      refine Yields.pure_ hR (cv := .pointer (some (ad.add (n.toNat * (tt.at e).size)))) ?_ hK ⟨ad.add (n.toNat * (tt.at e).size), vs n.toNat, by simp [Addr.add], by rw [block_add]; exact hF, ?_, fun j u hu => ?_⟩
      · simp only [execOp, ho, he, RV.int_inv hi]
        exact run_v (run_indexAt hT hk rfl h0 h1)
      · rw [elt_get hil]; exact hel _ hil
      · rw [add_add, ← hsz]; exact hcell _ hil j u hu
    unfold indexC at h
    split at h
    · rename_i e' t' l hvx
      rw [hvx] at hx
      rw [cond_eq_ite] at h
      split at h
      case isFalse => cases h
      rename_i hsz
      obtain ⟨h0, h⟩ := chk_some h
      obtain ⟨h1, h⟩ := chk_some h
      exact shared e' t' l hx hsz (by simpa using h0) (by simpa using h1) h
    · rename_i b hvx
      rw [hvx] at hx
      obtain ⟨hlt, hc⟩ := hx
      split at h
      · rename_i e' t' l hbox
        rw [cond_eq_ite] at h
        split at h
        case isFalse => cases h
        rename_i hsz
        obtain ⟨h0, h⟩ := chk_some h
        obtain ⟨h1, h⟩ := chk_some h
        have h0 : 0 ≤ n := by simpa using h0
        have h1 : n < (l.length : Int) := by simpa using h1
        have hsz : t'.size = (tt.at e).size := by simpa using hsz
        obtain ⟨A, c, hmb, _, _, hcells⟩ := row_cells (hR.boxes.box b _ (getD_box hbox (by simp)))
        obtain ⟨g, rfl, _, hel⟩ := hcells (by omega)
        refine Yields.pure_ hR (cv := .pointer (some ((⟨g, 0, none⟩ : Addr).add (n.toNat * (tt.at e).size)))) ?_ h ⟨hlt, h0, ?_⟩
        · simp only [execOp, ho, hc, hmb, RV.int_inv hi]
          exact run_v (run_indexAt hT hk rfl h0 h1)
        · have hbx : σ.boxes.getD b .dead = .row e' t' l := hbox
          rw [hbx]
          exact ⟨_, c, hmb, by omega, by rw [elem_add, hsz]⟩
      · rename_i e' t' l hbox
        rw [cond_eq_ite] at h
        split at h
        case isFalse => cases h
        rename_i hsz
        obtain ⟨h0, h⟩ := chk_some h
        obtain ⟨h1, h⟩ := chk_some h
        exact shared e' t' l (by rw [hc]; exact hR.boxes.box b _ (getD_box hbox (by simp))) hsz (by simpa using h0) (by simpa using h1) h
      · cases h
    · cases h
  · cases h

theorem bt_eq {s : ByteArray} {n : Int} (h0 : 0 ≤ n) (h1 : n < (s.size : Int)) : ∃ h : n.toNat < s.size, bt s n = ((s[n.toNat]'h).toNat : Int) := by
  have h : n.toNat < s.size := by omega
  exact ⟨h, by simp [bt, h]⟩

theorem step_index [Base] (hT : TTok P tt) (hR : Rel O F m σ a w) {t : TypeId} {x i : Operand} (ho : o.op = .index t x i)
    (h : (match (tt.at t).kind, σ.ev x, σ.ev i with
      | .str, .str s, .int _ n => chk (decide (0 ≤ n)) <| chk (decide (n < (s.size : Int))) <| K (.int .u8 (bt s n)) σ
      | _, _, _ => none) = some r) : Yields P O F w m σ.boxes K r a o := by
  have hx := ev_sound hR.slots x
  have hi := ev_sound hR.slots i
  split at h
  · rename_i s k n hk hvx hvi
    have hu := hT.str hk
    rw [hvx] at hx
    rw [hvi] at hi
    obtain ⟨h0, h⟩ := chk_some h
    obtain ⟨h1, h⟩ := chk_some h
    have h0 : 0 ≤ n := by simpa using h0
    have h1 : n < (s.size : Int) := by simpa using h1
    obtain ⟨hlt, hb⟩ := bt_eq h0 h1
    refine Yields.pure_ hR (cv := .int .u8 (bt s n)) ?_ h rfl
    simp only [execOp, ho, RV.str_inv hx, RV.int_inv hi]
    refine run_v ?_
    have hg : s[n.toNat]? = some (s[n.toNat]'hlt) := by simp [hlt]
    simp [Instr.index, asIntOf, run_underlying hu, h0, hg, hb, Sem.run_pure]
  · cases h
end Go.Lin
end
