/- A drawn region, at the machine. -/
import Derived.Test.YtgbfelpdlekbkaaDoorEv4
import Derived.WalkKit
import Derived.ProofKit
import Derived.OpenShut
import Derived.Deep.DeepHandedRow
import Derived.ChangeSame
import Derived.ChangeSlices
import Derived.Below
import Derived.Shelf.Vars
set_option linter.unusedVariables false
set_option linter.unusedSimpArgs false
section
namespace Go.Lin

variable {F F' F0 : Fz} {w w' w0 : World} {m m' m0 : Nat → Value} {bs bs' bs0 : List Box} {O : Nat → Prop} {σ σ' : St} {a : Act} {P : Program} {tt : TT} {ρ : Type} {C : FuncId → List Md × Orc ρ} {o : Oper} {ops : Array Oper} {q base : Nat} {v : V} {next : Act → World → Prop} {Q : Exit → Act → World → Prop}

/-- i comes before j, directly or through others. -/
inductive Anc (ops : Array Oper) : Nat → Nat → Prop
  | one {i j : Nat} {o : Oper} {e : Edge} : ops[j]? = some o → e ∈ o.after → Region.binds .any e = true → e.on = i → Anc ops i j
  | more {i p j : Nat} {o : Oper} {e : Edge} : ops[j]? = some o → e ∈ o.after → Region.binds .any e = true → e.on = p → Anc ops i p → Anc ops i j

theorem wanted_sound [Base] (hR : Rel O F m σ a w) {t : Bool} (h : wantedV ops o σ = some t) : Region.wanted o (yielded ops a.tmps) = t := by
  unfold wantedV at h
  cases hg : o.guard with
  | none =>
    rw [hg] at h
    obtain rfl := Option.some.inj h
    exact wanted_none hg _
  | some p =>
    obtain ⟨j, want⟩ := p
    rw [hg] at h
    dsimp only at h
    cases hd : (ops[j]?).bind (·.dst) with
    | none => rw [hd] at h; cases h
    | some d =>
      rw [hd] at h
      dsimp only at h
      have hslot := hR.slots.getD d .undef undef rfl
      have hy : yielded ops a.tmps j = match a.tmps.toList.getD d undef with | .bool b => some b | _ => none := by
        simp only [yielded, hd, Option.bind_some]
        rw [List.getD_eq_getElem?_getD, Array.getElem?_toList]
        cases a.tmps[d]? with
        | none => rfl
        | some x => cases x <;> rfl
      unfold Region.wanted
      rw [hg]
      dsimp only
      rw [hy]
      revert h hslot
      generalize σ.slots.getD d .undef = x
      generalize a.tmps.toList.getD d undef = c
      intro h hslot
      cases x with
      | bool b =>
        obtain rfl := RV.bool_inv hslot
        have h : some (b == want) = some t := h
        obtain rfl := Option.some.inj h
        cases b <;> cases want <;> rfl
      | undef =>
        have hslot : c = .tuple #[] := hslot
        subst hslot
        have h : some false = some t := h
        obtain rfl := Option.some.inj h
        cases want <;> rfl
      | _ => cases h

/-- What is so from the region's start on. -/
structure Carry (O : Nat → Prop) (F0 : Fz) (w0 : World) (m0 : Nat → Value) (bs0 : List Box) (F : Fz) (w : World) (m : Nat → Value) (bs : List Box) : Prop where
  keep : Keep O w0 w
  fz : ∀ g, F0 g → F g
  blk : ∀ g, F0 g → w.heap[g]? = w0.heap[g]?
  fz' : ∀ g, F g → F0 g ∨ O g
  old : ∀ b, b < bs0.length → Box.le (bs0.getD b .dead) (bs.getD b .dead) ∧ m b = m0 b

theorem Carry.onward [Base] (h : Carry O F0 w0 m0 bs0 F w m bs) (hn : Next O q F F' w w' m m' bs bs') (hq : bs0.length ≤ q) (hl : bs0.length ≤ bs.length) : Carry O F0 w0 m0 bs0 F' w' m' bs' :=
  ⟨h.keep.trans hn.keep, fun g hg => hn.fz g (h.fz g hg), fun g hg => (hn.blk g (h.fz g hg)).trans (h.blk g hg), fun g hg => by
    rcases hn.fz' g hg with hg | hg
    · exact h.fz' g hg
    · exact .inr hg, fun b hb => by
    obtain ⟨h1, h2⟩ := h.old b hb
    obtain ⟨h3, h4⟩ := hn.old b (by omega) (by omega)
    exact ⟨Box.le_trans h1 h3, h4.trans h2⟩⟩

/-- Nothing leads to a place that is kept for later. -/
structure NoRef (base : Nat) (l : List Nat) (σ : St) : Prop where
  slots : ∀ s ∈ σ.slots, ∀ i ∈ s.ids, ∀ j ∈ l, i ≠ base + j
  boxes : ∀ (b : Nat) (x : Box), σ.boxes[b]? = some x → ∀ i ∈ x.ids, ∀ j ∈ l, i ≠ base + j
theorem NoRef.fp [Base] {l : List Nat} (h : NoRef base l σ) {i : Nat} (hi : i ∈ fpOf o σ) : ∀ j ∈ l, i ≠ base + j := by
  rcases fp_ids hi with ⟨s, hs, hi⟩ | ⟨b, x, hx, hi⟩
  · exact h.slots s hs i hi
  · exact h.boxes b x hx i hi

theorem NoRef.put {l : List Nat} {v : V} (h : NoRef base l σ) (hv : ∀ i ∈ v.ids, ∀ j ∈ l, i ≠ base + j) (dst : Option Nat) : NoRef base l (σ.put dst v) := by
  cases dst with
  | none => exact h
  | some d =>
    refine ⟨fun s hs => ?_, h.boxes⟩
    rcases List.mem_or_eq_of_mem_set hs with hs | rfl
    · exact h.slots s hs
    · exact hv

/-- What is known of the operations that are still to be run. -/
structure Left (ops : Array Oper) (l : List (Nat × List Nat × List Nat)) (listed : Array Bool) : Prop where
  lt : ∀ x ∈ l, x.1 < ops.size
  nodup : (l.map (·.1)).Nodup
  size : listed.size = ops.size
  iff : ∀ i, i < ops.size → (listed.getD i true = false ↔ i ∈ l.map (·.1))
  down : ∀ (i : Nat) o, ops[i]? = some o → listed.getD i false = true → ∀ e ∈ o.after, Region.binds .any e = true → listed.getD e.on false = true
  order : ∀ l1 y l2, l = l1 ++ y :: l2 → ∀ o, ops[y.1]? = some o → ∀ e ∈ o.after, Region.binds .any e = true → listed.getD e.on false = true ∨ e.on ∈ l1.map (·.1)
  pairs : l.Pairwise fun x y => Anc ops x.1 y.1 ∨ Indep ops x y

theorem Left.anc {l : List (Nat × List Nat × List Nat)} {listed : Array Bool} (h : Left ops l listed) {i j : Nat} (ha : Anc ops i j) : (∀ o, ops[j]? = some o → ∀ e ∈ o.after, Region.binds .any e = true → listed.getD e.on false = true) → listed.getD i false = true := by
  induction ha with
  | one hj he hb hi => intro hp; rw [← hi]; exact hp _ hj _ he hb
  | @more p j o e hj he hb hp' _ ih =>
    intro hp
    have hlp : listed.getD p false = true := by rw [← hp']; exact hp _ hj _ he hb
    exact ih fun o ho e he hb => h.down p o ho hlp e he hb

theorem any_sound [Base] (hT : TTok P tt) (hC : Reals P C) (r : ρ) (hbase : bs0.length = base) (hO : ∀ g, w0.heap.size ≤ g → O g)
    (hQ : ∀ F m a w, Rel O F m σ' a w → Carry O F0 w0 m0 bs0 F w m σ'.boxes → Q .normal a w) :
    ∀ (fuel : Nat) (l : List (Nat × List Nat × List Nat)) (listed : Array Bool) (σ : St) (F : Fz) (m : Nat → Value) (a : Act) (w : World), l.length ≤ fuel → Tr tt C ops base l σ σ' → Rel O F m σ a w → Carry O F0 w0 m0 bs0 F w m σ.boxes →
      σ.boxes.length = base + ops.size → NoRef base (l.map (·.1)) σ → Left ops l listed → wpAny P .any ops Q fuel listed a w := by
  have none_left : ∀ {l : List (Nat × List Nat × List Nat)} {listed : Array Bool}, Left ops l listed → (Region.ready .any ops listed = [] ↔ l = []) := by
    intro l listed hl
    constructor
    · intro hr
      cases l with
      | nil => rfl
      | cons x l =>
        have hx := hl.lt x (by simp)
        have : x.1 ∈ Region.ready .any ops listed := by
          rw [mem_ready]
          refine ⟨(hl.iff x.1 hx).2 (by simp), ops[x.1], by simp [hx], fun e he hb => ?_⟩
          rcases hl.order [] x l rfl ops[x.1] (by simp [hx]) e he hb with h | h
          · exact h
          · simp at h
        rw [hr] at this
        cases this
    · rintro rfl
      cases hr : Region.ready .any ops listed with
      | nil => rfl
      | cons j rest =>
        have hj : j ∈ Region.ready .any ops listed := by rw [hr]; simp
        obtain ⟨h0, o, ho, _⟩ := mem_ready.1 hj
        have hlt : j < ops.size := (Array.getElem?_eq_some_iff.1 ho).1
        have := (hl.iff j hlt).1 h0
        simp at this
  intro fuel
  induction fuel with
  | zero =>
    intro l listed σ F m a w hlen ht hR hc hbl hnr hl
    obtain rfl : l = [] := List.length_eq_zero_iff.1 (by omega)
    cases ht
    exact ⟨(none_left hl).2 rfl, hQ F m a w hR hc⟩
  | succ fuel ih =>
    intro l listed σ F m a w hlen ht hR hc hbl hnr hl
    refine ⟨fun hr => ?_, fun j hj => ?_⟩
    · obtain rfl := (none_left hl).1 hr
      cases ht
      exact hQ F m a w hR hc
    · obtain ⟨h0, o, ho, hpre⟩ := mem_ready.1 hj
      have hjlt : j < ops.size := (Array.getElem?_eq_some_iff.1 ho).1
      have hjm := (hl.iff j hjlt).1 h0
      obtain ⟨y, hy, rfl⟩ := List.mem_map.1 hjm
      obtain ⟨l1, l2, rfl⟩ := List.append_of_mem hy
      have hpw := hl.pairs
      rw [List.pairwise_append] at hpw
      obtain ⟨hp1, hp2, hp12⟩ := hpw
      have hp2' := (List.pairwise_cons.1 hp2).2
      have hind : ∀ x ∈ l1, Indep ops x y := by
        intro x hx
        rcases hp12 x hx y (by simp) with ha | hi
        · have h1 := hl.anc ha fun o' ho' e he hb => by
            rw [ho] at ho'
            obtain rfl := Option.some.inj ho'
            exact hpre e he hb
          have hxl := hl.lt x (by simp [hx])
          have h2 := (hl.iff x.1 hxl).2 (List.mem_map.2 ⟨x, by simp [hx], rfl⟩)
          have hs : x.1 < listed.size := by rw [hl.size]; exact hxl
          simp [hs] at h1 h2
          rw [h1] at h2
          cases h2
        · exact hi
      have ht' := Tr.bubble ht hind
      have hnd := hl.nodup
      have hyn : ∀ x ∈ l1 ++ l2, x.1 ≠ y.1 := by
        rw [List.map_append, List.map_cons, List.nodup_append] at hnd
        obtain ⟨hn1, hn2, hn3⟩ := hnd
        rw [List.nodup_cons] at hn2
        intro x hx e
        rcases List.mem_append.1 hx with hx | hx
        · exact hn3 x.1 (List.mem_map.2 ⟨x, hx, rfl⟩) y.1 (by simp) e
        · exact hn2.1 (e ▸ List.mem_map.2 ⟨x, hx, rfl⟩)
      have hysz : y.1 < listed.size := by rw [hl.size]; exact hjlt
      have hl' : Left ops (l1 ++ l2) (listed.setIfInBounds y.1 true) := by
        refine ⟨fun x hx => hl.lt x ?_, ?_, by simp [hl.size], fun i hi => ?_, fun i oi hoi hli e he hb => ?_, fun k1 z k2 hk oz hoz e he hb => ?_, ?_⟩
        · rcases List.mem_append.1 hx with hx | hx <;> simp [hx]
        · rw [List.map_append, List.map_cons, List.nodup_append] at hnd
          obtain ⟨hn1, hn2, hn3⟩ := hnd
          rw [List.nodup_cons] at hn2
          rw [List.map_append, List.nodup_append]
          exact ⟨hn1, hn2.2, fun a ha b hb => hn3 a ha b (by simp [hb])⟩
        · by_cases hiy : i = y.1
          · subst hiy
            constructor
            · intro h; simp [hysz] at h
            · intro h
              obtain ⟨x, hx, he⟩ := List.mem_map.1 h
              exact absurd he (hyn x hx)
          · rw [getD_set_ne true (Ne.symm hiy), hl.iff i hi]
            simp [hiy]
        · by_cases hiy : i = y.1
          · subst hiy
            rw [ho] at hoi
            obtain rfl := Option.some.inj hoi
            exact getD_set_true (hpre e he hb)
          · rw [getD_set_ne false (Ne.symm hiy)] at hli
            exact getD_set_true (hl.down i oi hoi hli e he hb)
        · -- where z stood before
          have : ∃ k1' k2', l1 ++ y :: l2 = k1' ++ z :: k2' ∧ ∀ x ∈ k1', x = y ∨ x ∈ k1 := by
            rcases List.append_eq_append_iff.1 hk with ⟨t, h1, h2⟩ | ⟨t, h1, h2⟩
            · -- k1 = l1 ++ t, l2 = t ++ z :: k2
              refine ⟨l1 ++ y :: t, k2, by rw [h2]; simp, fun x hx => ?_⟩
              rcases List.mem_append.1 hx with hx | hx
              · exact .inr (by rw [h1]; simp [hx])
              · rcases List.mem_cons.1 hx with rfl | hx
                · exact .inl rfl
                · exact .inr (by rw [h1]; simp [hx])
            · -- l1 = k1 ++ t, z :: k2 = t ++ l2
              cases t with
              | nil =>
                simp only [List.nil_append, List.append_nil] at h1 h2
                refine ⟨l1 ++ [y], k2, by rw [← h2]; simp, fun x hx => ?_⟩
                rcases List.mem_append.1 hx with hx | hx
                · exact .inr (h1 ▸ hx)
                · exact .inl (by simpa using hx)
              | cons t0 t =>
                simp only [List.cons_append, List.cons.injEq] at h2
                obtain ⟨rfl, rfl⟩ := h2
                exact ⟨k1, t ++ y :: l2, by rw [h1]; simp, fun x hx => .inr hx⟩
          obtain ⟨k1', k2', hk', hsub⟩ := this
          rcases hl.order k1' z k2' hk' oz hoz e he hb with h | h
          · exact .inl (getD_set_true h)
          · obtain ⟨x, hx, hxe⟩ := List.mem_map.1 h
            rcases hsub x hx with rfl | hx
            · left; rw [← hxe]; simp [hysz]
            · exact .inr (List.mem_map.2 ⟨x, hx, hxe⟩)
        · rw [List.pairwise_append]
          exact ⟨hp1, hp2', fun x hx z hz => hp12 x hx z (by simp [hz])⟩
      have hlen' : (l1 ++ l2).length ≤ fuel := by simp at hlen ⊢; omega
      have hsubl : ∀ j ∈ (l1 ++ l2).map (·.1), j ∈ (l1 ++ y :: l2).map (·.1) := by
        intro j hj
        obtain ⟨x, hx, rfl⟩ := List.mem_map.1 hj
        refine List.mem_map.2 ⟨x, ?_, rfl⟩
        rcases List.mem_append.1 hx with hx | hx <;> simp [hx]
      have hnr' : NoRef base ((l1 ++ l2).map (·.1)) σ := ⟨fun s hs i hi j hj => hnr.slots s hs i hi j (hsubl j hj), fun b x hx i hi j hj => hnr.boxes b x hx i hi j (hsubl j hj)⟩
      have hO' : ∀ g, w.heap.size ≤ g → O g := fun g hg => hO g (Nat.le_trans hc.keep.size hg)
      generalize hyy : y = y0 at ht'
      cases ht' with
      | @cons i oi vi bi _ _ _ hoi hdi ht' =>
        subst hyy
        dsimp only at *
        rw [ho] at hoi
        obtain rfl := Option.some.inj hoi
        unfold wpOp
        rw [ho]
        dsimp only
        cases hdi with
        | skip hg =>
          rw [wanted_sound hR hg]
          rw [if_neg (by simp)]
          exact ih _ _ _ F m _ w hlen' ht' (hR.put (v := .undef) (cv := undef) rfl _) (by rw [St.put_boxes]; exact hc) (by rw [St.put_boxes]; exact hbl) (hnr'.put (fun i hi => by cases hi) _) hl'
        | go hg hd =>
          rw [wanted_sound hR hg, if_pos rfl]
          left
          have hqj : i ∈ (l1 ++ (i, (base + i) :: fpOf o σ, wOf (base + i) o σ) :: l2).map (·.1) := by simp
          refine local_sound hT hC r hR hO' hd (by rw [hbl]; omega) (fun s hs k hk => hnr.slots s hs k hk i hqj) (fun b x hx k hk => hnr.boxes b x hx k hk i hqj) fun cv w' F' m' hR' hv hnx => ?_
          have hids := hd.ids
          have hfpn : ∀ k ∈ (base + i) :: fpOf o σ, ∀ j ∈ (l1 ++ l2).map (·.1), k ≠ base + j := by
            intro k hk j hj
            rcases List.mem_cons.1 hk with rfl | hk
            · intro e
              obtain ⟨x, hx, rfl⟩ := List.mem_map.1 hj
              exact hyn x hx (by omega)
            · exact hnr'.fp hk j hj
          have hnr2 : NoRef base ((l1 ++ l2).map (·.1)) ⟨σ.slots, bi⟩ := by
            refine ⟨hnr'.slots, fun b x hx k hk => ?_⟩
            rcases hids.2 b x hx k hk with hk | ⟨z, hz, hk⟩
            · exact hfpn k hk
            · exact hnr'.boxes b z hz k hk
          refine ih _ _ _ F' m' _ w' hlen' ht' (hR'.put hv _) ?_ (by rw [St.put_boxes]; exact hd.len.trans hbl) (hnr2.put (fun k hk => hfpn k (hids.1 k hk)) _) hl'
          rw [St.put_boxes]
          exact hc.onward hnx (by omega) (by omega)
end Go.Lin
end

/- A drawn region: the evaluator and the machine. -/
section
namespace Go.Lin

variable {F F' F0 : Fz} {w w' w0 : World} {m m' m0 : Nat → Value} {bs bs' bs0 : List Box} {O : Nat → Prop} {σ σ' : St} {a : Act} {P : Program} {tt : TT} {ρ : Type} {C : FuncId → List Md × Orc ρ} {o : Oper} {ops : Array Oper} {q base : Nat} {v : V} {r : ρ}

theorem mem_predsOf {p : Nat} : p ∈ predsOf o ↔ ∃ e ∈ o.after, Region.binds .any e = true ∧ e.on = p := by
  unfold predsOf
  rw [List.mem_filterMap]
  constructor
  · rintro ⟨e, he, h⟩
    cases hb : Region.binds .any e with
    | true =>
      rw [hb] at h
      exact ⟨e, by simpa using he, hb, Option.some.inj h⟩
    | false => rw [hb] at h; cases h
  · rintro ⟨e, he, hb, rfl⟩
    exact ⟨e, by simpa using he, by rw [hb]; rfl⟩

theorem ancsGo_sound [Base] : ∀ (os pre : List Oper) (acc : List (List Nat)), ops.toList = pre ++ os → acc.length = pre.length → (∀ j i, i ∈ acc.getD j [] → Anc ops i j) → ∀ j i, i ∈ (ancsGo os acc).getD j [] → Anc ops i j
  | [], _, _, _, _, hacc => hacc
  | o :: os, pre, acc, hops, hlen, hacc => by
    refine ancsGo_sound os (pre ++ [o]) _ (by simp [hops]) (by simp [hlen]) fun j i hi => ?_
    rcases Nat.lt_trichotomy j acc.length with h | h | h
    · rw [List.getD_eq_getElem?_getD, List.getElem?_append_left h, ← List.getD_eq_getElem?_getD] at hi
      exact hacc j i hi
    · subst h
      rw [List.getD_eq_getElem?_getD, List.getElem?_append_right (Nat.le_refl _)] at hi
      simp only [Nat.sub_self, List.getElem?_cons_zero, Option.getD_some] at hi
      have ho : ops[acc.length]? = some o := by
        rw [← Array.getElem?_toList, hops, hlen, List.getElem?_append_right (Nat.le_refl _)]
        simp
      rcases mem_foldl hi with hi | hi
      · cases hi
      · obtain ⟨p, hp, hi⟩ := List.mem_flatMap.1 hi
        obtain ⟨e, he, hb, hep⟩ := mem_predsOf.1 hp
        rcases List.mem_cons.1 hi with rfl | hi
        · exact .one ho he hb hep
        · exact .more ho he hb hep (hacc p i hi)
    · rw [List.getD_eq_getElem?_getD, List.getElem?_eq_none (by simp; omega)] at hi
      cases hi

theorem disj_spec {l l' : List Nat} (h : disj l l' = true) : ∀ b ∈ l, b ∉ l' := by
  simpa [disj] using h

theorem okPair_spec [Base] {A : List (List Nat)} (hA : ∀ j i, i ∈ A.getD j [] → Anc ops i j) {x : Nat × List Nat × List Nat} {i : Nat} {fp wr : List Nat} (ho : ops[i]? = some o) (h : okPair ops A x o i fp wr = true) : Anc ops x.1 i ∨ Indep ops x (i, fp, wr) := by
  unfold okPair at h
  rw [Bool.or_eq_true, List.contains_iff_mem] at h
  rcases h with h | h
  · exact .inl (hA i x.1 h)
  · right
    rw [Bool.and_eq_true, Bool.and_eq_true] at h
    obtain ⟨h1, h2, h3⟩ := h
    refine ⟨fun ox oy hox hoy => ?_, disj_spec h2, disj_spec h3⟩
    rw [hox] at h1
    dsimp only at hoy h1
    rw [ho] at hoy
    obtain rfl := Option.some.inj hoy
    exact h1

/-- What a run of the evaluator tells of the operations. -/
structure Told (tt : TT) (C : FuncId → List Md × Orc ρ) (ops : Array Oper) (base : Nat) (os : List (Oper × Nat)) (done l : List (Nat × List Nat × List Nat)) (σ σ' : St) : Prop where
  tr : Tr tt C ops base l σ σ'
  names : l.map (·.1) = os.map (·.2)
  pairs : l.Pairwise fun x y => Anc ops x.1 y.1 ∨ Indep ops x y
  cross : ∀ x ∈ done, ∀ y ∈ l, Anc ops x.1 y.1 ∨ Indep ops x y
  order : ∀ l1 y l2, l = l1 ++ y :: l2 → ∀ o, ops[y.1]? = some o → ∀ e ∈ o.after, Region.binds .any e = true → e.on ∈ done.map (·.1) ∨ e.on ∈ l1.map (·.1)

theorem put_same {d : Nat} {v : V} (h : σ.slots.getD d .undef = v) (hv : v ≠ .undef) : σ.put (some d) v = σ := by
  have hlt : d < σ.slots.length := by
    rcases Nat.lt_or_ge d σ.slots.length with h' | h'
    · exact h'
    · rw [List.getD_eq_getElem?_getD, List.getElem?_eq_none h'] at h
      exact absurd h.symm hv
  obtain ⟨sl, bs⟩ := σ
  show (⟨sl.set d v, bs⟩ : St) = ⟨sl, bs⟩
  have hg : sl[d]'hlt = v := by
    rw [List.getD_eq_getElem?_getD, List.getElem?_eq_getElem hlt] at h
    exact h
  rw [← hg, List.set_getElem_self]

theorem runDs_told [Base] (hC : ∀ g, NatO (C g).2) {A : List (List Nat)} (hA : ∀ j i, i ∈ A.getD j [] → Anc ops i j) {K : St → Option ρ} :
    ∀ (os : List (Oper × Nat)) (done : List (Nat × List Nat × List Nat)) (σ : St), (∀ x ∈ os, ops[x.2]? = some x.1) → runDs tt C ops A base os done σ K = some r → ∃ l σ', Told tt C ops base os done l σ σ' ∧ K σ' = some r
  | [], done, σ, _, h => ⟨[], σ, ⟨Tr.nil, rfl, List.Pairwise.nil, (fun x _ y hy => nomatch hy), (fun l1 y l2 hl => by cases l1 <;> cases hl)⟩, h⟩
  | (o, i) :: os, done, σ, hos, h => by
    have ho : ops[i]? = some o := hos (o, i) (by simp)
    unfold runDs at h
    obtain ⟨hok, h⟩ := chk_some h
    unfold okNow at hok
    rw [Bool.and_eq_true, List.all_eq_true, List.all_eq_true] at hok
    obtain ⟨hpre, hpairs⟩ := hok
    -- one operation, then the others
    have goOn : ∀ {v : V} {bs : List Box}, DoesA tt C ops (base + i) o σ v bs → runDs tt C ops A base os ((i, (base + i) :: fpOf o σ, wOf (base + i) o σ) :: done) (St.put ⟨σ.slots, bs⟩ o.dst v) K = some r →
        ∃ l σ', Told tt C ops base ((o, i) :: os) done l σ σ' ∧ K σ' = some r := by
      intro v bs hd hrest
      obtain ⟨l, σ', ht, hK⟩ := runDs_told hC hA os _ _ (fun x hx => hos x (by simp [hx])) hrest
      refine ⟨_, σ', ⟨.cons ho hd ht.tr, by simp [ht.names], ?_, fun x hx y hy => ?_, fun l1 y l2 hl oy hoy e he hb => ?_⟩, hK⟩
      · exact List.pairwise_cons.2 ⟨fun y hy => ht.cross _ (by simp) y hy, ht.pairs⟩
      · rcases List.mem_cons.1 hy with rfl | hy
        · exact okPair_spec hA ho (hpairs x hx)
        · exact ht.cross x (by simp [hx]) y hy
      · cases l1 with
        | nil =>
          simp only [List.nil_append, List.cons.injEq] at hl
          obtain ⟨rfl, rfl⟩ := hl
          dsimp only at hoy
          rw [ho] at hoy
          obtain rfl := Option.some.inj hoy
          have := hpre e.on (mem_predsOf.2 ⟨e, he, hb, rfl⟩)
          obtain ⟨x, hx, hxe⟩ := List.any_eq_true.1 this
          exact .inl (List.mem_map.2 ⟨x, hx, Nat.eq_of_beq_eq_true hxe⟩)
        | cons x l1 =>
          simp only [List.cons_append, List.cons.injEq] at hl
          obtain ⟨rfl, hl⟩ := hl
          rcases ht.order l1 y l2 hl oy hoy e he hb with h | h
          · rw [List.map_cons] at h
            rcases List.mem_cons.1 h with h | h
            · exact .inr (by simp [h])
            · exact .inl h
          · exact .inr (by rw [List.map_cons]; exact List.mem_cons_of_mem _ h)
    have go : wantedV ops o σ = some true → (local_ tt C ops (base + i) o σ fun v σ' => putF σ' o.dst v fun σ'' => runDs tt C ops A base os ((i, (base + i) :: fpOf o σ, wOf (base + i) o σ) :: done) σ'' K) = some r →
        ∃ l σ', Told tt C ops base ((o, i) :: os) done l σ σ' ∧ K σ' = some r := by
      intro hw h
      obtain ⟨v, bs, hd, hk⟩ := local_does hC h
      rw [putF_eq] at hk
      exact goOn (.go hw hd) hk
    have no : wantedV ops o σ = some false → (putF σ o.dst .undef fun σ'' => runDs tt C ops A base os ((i, (base + i) :: fpOf o σ, wOf (base + i) o σ) :: done) σ'' K) = some r →
        ∃ l σ', Told tt C ops base ((o, i) :: os) done l σ σ' ∧ K σ' = some r := by
      intro hw h
      rw [putF_eq] at h
      exact goOn (.skip hw) h
    unfold wantedV at go no
    split at h
    · rename_i hg
      rw [hg] at go
      exact go rfl h
    · rename_i j want hg
      rw [hg] at go no
      dsimp only at go no
      split at h
      · cases h
      · rename_i d hd
        rw [hd] at go no
        dsimp only at go no
        split at h
        · rename_i t ht
          rw [ht] at go no
          dsimp only at go no h
          cases t with
          | true =>
            simp only [cond_true] at h
            rw [putF_eq, put_same ht (by simp)] at h
            cases want with
            | true => exact go rfl h
            | false => exact no rfl h
          | false =>
            simp only [cond_false] at h
            rw [putF_eq, put_same ht (by simp)] at h
            cases want with
            | true => exact no rfl h
            | false => exact go rfl h
        · rename_i ht
          rw [ht] at no
          exact no rfl h
        · cases h

theorem extend_later [Base] (n : Nat) : Later F F w w m m bs (bs ++ List.replicate n .dead) := by
  refine ⟨fun _ h => h, fun _ _ => rfl, by simp, fun b hb => ?_, fun _ _ => rfl⟩
  rw [List.getD_eq_getElem?_getD, List.getD_eq_getElem?_getD, List.getElem?_append_left hb]
  exact Box.le_refl _
theorem extend_get {n b : Nat} {x : Box} (h : (bs ++ List.replicate n Box.dead)[b]? = some x) : x = .dead ∨ bs[b]? = some x := by
  rcases Nat.lt_or_ge b bs.length with hlt | hge
  · rw [List.getElem?_append_left hlt] at h; exact .inr h
  · rw [List.getElem?_append_right hge] at h
    exact .inl (List.eq_of_mem_replicate (List.mem_of_getElem? h))
theorem Rel.extend [Base] (h : Rel O F m σ a w) (n : Nat) : Rel O F m ⟨σ.slots, σ.boxes ++ List.replicate n .dead⟩ a w := by
  refine ⟨h.slots.mono fun _ _ hv => hv.later (extend_later n), ⟨fun b x hx => ?_, fun b b' x x' g hx hx' hl hl' hne hg hg' => ?_, h.boxes.fz, h.boxes.glob⟩, fun g hg => ?_, h.defers⟩
  · rcases extend_get hx with rfl | hx
    · exact trivial
    · exact (h.boxes.box b x hx).later (extend_later n) (get_lt hx) fun hl g hg => ⟨rfl, (h.boxes.box b x hx).notF hl hg⟩
  · rcases extend_get hx with rfl | hx
    · cases hl
    · rcases extend_get hx' with rfl | hx'
      · cases hl'
      · exact h.boxes.apart b b' x x' g hx hx' hl hl' hne hg hg'
  · obtain ⟨b, x, hx, hl, hg⟩ := hg
    rcases extend_get hx with rfl | hx
    · cases hl
    · exact h.own g ⟨b, x, hx, hl, hg⟩

/-! ### what is related leads to boxes that are there -/
theorem RL.ids_lt {v : V} {c : Value} (h : RL F w m bs v c) : ∀ i ∈ v.id1, i < bs.length := by
  cases v with
  | own b => intro i hi; obtain rfl : i = b := by simpa [V.id1] using hi
             exact h.1
  | ptr b off => intro i hi; obtain rfl : i = b := by simpa [V.id1] using hi
                 exact h.1
  | ep b k off => intro i hi; obtain rfl : i = b := by simpa [V.id1] using hi
                  exact h.1
  | _ => intro i hi; cases hi
theorem RLs.ids_lt [Base] {vs : List V} {cs : List Value} (h : All2 (RL F w m bs) vs cs) : ∀ i ∈ vs.flatMap V.id1, i < bs.length := by
  induction h with
  | nil => intro i hi; cases hi
  | cons h _ ih =>
    intro i hi
    rw [List.flatMap_cons] at hi
    rcases List.mem_append.1 hi with hi | hi
    · exact h.ids_lt i hi
    · exact ih i hi
theorem R2.ids_lt [Base] {v : V} {c : Value} (h : R2 F w m bs v c) : ∀ i ∈ (match v with | .agg cs => cs.flatMap V.id1 | v => v.id1), i < bs.length := by
  cases v with
  | agg cs => obtain ⟨us, rfl, hh⟩ := h; exact RLs.ids_lt hh
  | own b => exact RL.ids_lt (F := F) (w := w) (v := .own b) h
  | ptr b off => exact RL.ids_lt (F := F) (w := w) (v := .ptr b off) h
  | ep b k off => exact RL.ids_lt (F := F) (w := w) (v := .ep b k off) h
  | _ => intro i hi; cases hi
theorem RV.ids_lt [Base] {v : V} {c : Value} (h : RV F w m bs v c) : ∀ i ∈ v.ids, i < bs.length := by
  cases v with
  | tup vs =>
    obtain ⟨cs, rfl, hh⟩ := h
    intro i hi
    obtain ⟨x, hx, hi⟩ := List.mem_flatMap.1 hi
    have : ∀ {vs : List V} {cs : List Value}, All2 (R2 F w m bs) vs cs → x ∈ vs → ∃ c, R2 F w m bs x c := by
      intro vs cs h hx
      induction h with
      | nil => cases hx
      | cons h _ ih =>
        rcases List.mem_cons.1 hx with rfl | hx
        · exact ⟨_, h⟩
        · exact ih hx
    obtain ⟨c, hc⟩ := this hh hx
    exact R2.ids_lt hc i hi
  | agg cs => obtain ⟨us, rfl, hh⟩ := h; exact RLs.ids_lt hh
  | fn g cs => obtain ⟨us, rfl, hh⟩ := h; exact RLs.ids_lt hh
  | own b => exact RL.ids_lt (F := F) (w := w) (v := .own b) h
  | ptr b off => exact RL.ids_lt (F := F) (w := w) (v := .ptr b off) h
  | ep b k off => exact RL.ids_lt (F := F) (w := w) (v := .ep b k off) h
  | _ => intro i hi; cases hi
theorem RB.ids_lt [Base] {b : Nat} {x : Box} (h : RB F w m bs b x) : ∀ i ∈ x.ids, i < bs.length := by
  cases x with
  | cells t cs =>
    obtain ⟨g, arr, _, _, hall, _⟩ := h
    intro i hi
    have : ∀ {vs : List V} {cs : List Value}, All2 (RL F w m bs) vs cs → ∀ i ∈ vs.flatMap V.ids, i < bs.length := by
      intro vs cs h
      induction h with
      | nil => intro i hi; cases hi
      | @cons x y _ _ h _ ih =>
        intro i hi
        rw [List.flatMap_cons] at hi
        rcases List.mem_append.1 hi with hi | hi
        · have : RV F w m bs x y := by cases x <;> first | exact h | exact h.elim | exact trivial
          exact this.ids_lt i hi
        · exact ih i hi
    exact this hall i hi
  | _ => intro i hi; cases hi

theorem Tr.len [Base] {l : List (Nat × List Nat × List Nat)} (h : Tr tt C ops base l σ σ') : σ'.boxes.length = σ.boxes.length := by
  induction h with
  | nil => rfl
  | cons _ hd _ ih => rw [ih, St.put_boxes]; exact hd.len

/-- A drawn region may be run in each order. -/
theorem drawOK [Base] (hT : TTok P tt) (hC : Reals P C) (hN : ∀ g, NatO (C g).2) (ops : Array Oper) : DrawOK P tt C ops := by
  intro K r O F m σ a w Q hR hO h hQ
  unfold runD at h
  obtain ⟨l, σ', ht, hK⟩ := runDs_told (base := σ.boxes.length) hN (ancsGo_sound ops.toList [] [] (by simp) rfl fun j i hi => by simp at hi) ops.toList.zipIdx [] ⟨σ.slots, σ.boxes ++ List.replicate ops.size .dead⟩ (fun x hx => by
    rw [List.mem_zipIdx_iff_getElem?] at hx
    rw [← Array.getElem?_toList]
    exact hx) h
  have hnames : l.map (·.1) = List.range ops.size := by
    rw [ht.names]
    simp [List.zipIdx_map_snd, List.range_eq_range']
  have hlen : l.length = ops.size := by
    have := congrArg List.length hnames
    simpa using this
  have hlt : ∀ x ∈ l, x.1 < ops.size := by
    intro x hx
    have : x.1 ∈ l.map (·.1) := List.mem_map.2 ⟨x, hx, rfl⟩
    rw [hnames] at this
    simpa using this
  refine any_sound (F0 := F) (w0 := w) (m0 := m) (bs0 := σ.boxes) (σ' := σ') hT hC r rfl hO (fun F' m' a' w' hR' hc => ?_) ops.size l _ _ F m a w (by omega) ht.tr (hR.extend ops.size) ⟨.refl O w, fun _ h => h, fun _ _ => rfl, fun _ h => .inl h, fun b hb => ⟨?_, rfl⟩⟩ (by simp) ⟨fun s hs i hi j hj => ?_, fun b x hx i hi j hj => ?_⟩
    ⟨hlt, by rw [hnames]; exact List.nodup_range, by simp, fun i hi => ?_, fun i o _ hi => ?_, fun l1 y l2 hl o ho e he hb => ?_, ht.pairs⟩
  · refine hQ a' w' ⟨σ', F', m', hK, hR', hc.keep, ⟨hc.fz, hc.blk, ?_, fun b hb => (hc.old b hb).1, fun b hb => (hc.old b hb).2⟩, hc.fz'⟩
    rw [ht.tr.len]; simp
  · exact (extend_later (F := F) (w := w) (m := m) ops.size).le b hb
  · have := hR.slots
    obtain ⟨c, hc⟩ : ∃ c, RV F w m σ.boxes s c := by
      obtain ⟨k, hk, rfl⟩ := List.mem_iff_getElem.1 hs
      have hgd := hR.slots.getD k .undef undef rfl
      rw [List.getD_eq_getElem?_getD, List.getElem?_eq_getElem hk] at hgd
      exact ⟨_, hgd⟩
    have := hc.ids_lt i hi
    omega
  · rcases extend_get hx with rfl | hx
    · cases hi
    · have := (hR.boxes.box b x hx).ids_lt i hi
      omega
  · rw [hnames]
    simp [hi]
  · exfalso
    simp only [Array.getD_eq_getD_getElem?, Array.getElem?_replicate] at hi
    split at hi <;> cases hi
  · rcases ht.order l1 y l2 hl o ho e he hb with h | h
    · cases h
    · exact .inr h
end Go.Lin
end

/- What a function takes and answers, as plain data. -/
section
namespace Go.Lin

inductive Sh where
  | one (t : Ty)
  | agg (t : Ty)
  | own (e : TypeId) (t : Ty)
  | ptr (tid : TypeId) (t : Ty)
  | gown (s v : TypeId)
  | fn (f : FuncId)

@[reducible] def Sh.D : Sh → Type
  | .one t => t.D
  | .agg t => t.D
  | .own _ t => List t.D
  | .ptr _ t => t.D
  | .gown _ _ => GVal
  | .fn _ => Unit

@[reducible] def Tup : List Sh → Type
  | [] => Unit
  | [s] => s.D
  | s :: s' :: r => s.D × Tup (s' :: r)

def one1 : List V → V
  | [v] => v
  | _ => .junk

/-- The value, and the boxes behind it; n: the number of the next box. -/
def Sh.enc (n : Nat) : (s : Sh) → s.D → V × List Box
  | .one t, x => (one1 (unpack t x), [])
  | .agg t, x => (.agg (unpack t x), [])
  | .own e t, l => (.own n, [.row e t l])
  | .ptr tid t, x => (.ptr n 0, [.cells tid (unpack t x)])
  | .gown s v, x => (.agg [.int .i64 (GVal.kind x), .str (GVal.text x), .int .i64 (GVal.num x), .own n, .own (n + 1)], [.row s .str (GVal.keys x), .row v (.gval s v) (GVal.kids x)])
  | .fn f, _ => (.fn f [], [])
def Sh.nb : Sh → Nat
  | .own _ _ => 1
  | .ptr _ _ => 1
  | .gown _ _ => 2
  | _ => 0
def encs (n : Nat) : (l : List Sh) → Tup l → List V × List Box
  | [], _ => ([], [])
  | [s], x => ([(s.enc n x).1], (s.enc n x).2)
  | s :: s' :: r, x => ((s.enc n x.1).1 :: (encs (n + s.nb) (s' :: r) x.2).1, (s.enc n x.1).2 ++ (encs (n + s.nb) (s' :: r) x.2).2)

/-! ### back, to the letter -/
def unSlc (e : TypeId) (t : Ty) : V → Option (List t.D)
  | .slc e' t' l => if h : e' = e ∧ t' = t then some (h.2 ▸ l) else none
  | _ => none
def packGS (s v : TypeId) : List V → Option (GVal × List V)
  | .int k' k :: .str t :: .int k'' n :: ks :: vs :: r => bif decide (k' = .i64) && decide (k'' = .i64) then (unSlc s .str ks).bind fun keys => (unSlc v (.gval s v) vs).bind fun kids => some ((⟨k, t, n, keys, kids⟩ : GVal), r) else none
  | _ => none
def packS : (t : Ty) → List V → Option (t.D × List V)
  | .int k, .int k' n :: r => bif decide (k' = k) then some (n, r) else none
  | .bool, .bool b :: r => some (b, r)
  | .str, .str s :: r => some (s, r)
  | .slice e t, v :: r => (unSlc e t v).bind fun l => some (l, r)
  | .pair a b, cs => (packS a cs).bind fun p => (packS b p.2).bind fun q => some ((p.1, q.1), q.2)
  | .gval s v, cs => packGS s v cs
  | _, _ => none
def packS1 (t : Ty) (cs : List V) : Option t.D := (packS t cs).bind fun p => match p.2 with | [] => some p.1 | _ => none
def unRow (e : TypeId) (t : Ty) : Box → Option (List t.D)
  | .row e' t' l => if h : e' = e ∧ t' = t then some (h.2 ▸ l) else none
  | _ => none
def unCells (tid : TypeId) (t : Ty) : Box → Option t.D
  | .cells tid' cs => bif tid' == tid then packS1 t cs else none
  | _ => none

def decOne (t : Ty) (v : V) (bs : List Box) : Option (t.D × List Box) := bif v.one then (packS1 t [v]).bind fun x => some (x, bs) else none
def decAgg (t : Ty) (v : V) (bs : List Box) : Option (t.D × List Box) := match v with
  | .agg cs => (packS1 t cs).bind fun x => some (x, bs)
  | _ => none
def decOwn (n : Nat) (e : TypeId) (t : Ty) (v : V) (bs : List Box) : Option (List t.D × List Box) := match v, bs with
  | .own b, x :: bs => bif b == n then (unRow e t x).bind fun l => some (l, bs) else none
  | _, _ => none
def decPtr (n : Nat) (tid : TypeId) (t : Ty) (v : V) (bs : List Box) : Option (t.D × List Box) := match v, bs with
  | .ptr b 0, x :: bs => bif b == n then (unCells tid t x).bind fun x => some (x, bs) else none
  | _, _ => none
def decGown (n : Nat) (s v : TypeId) (u : V) (bs : List Box) : Option (GVal × List Box) := match u, bs with
  | .agg [.int k' k, .str t, .int k'' m, .own a, .own b], x :: y :: bs =>
    bif decide (k' = .i64) && decide (k'' = .i64) && (a == n && b == n + 1) then (unRow s .str x).bind fun keys => (unRow v (.gval s v) y).bind fun kids => some ((⟨k, t, m, keys, kids⟩ : GVal), bs) else none
  | _, _ => none
def decFn (f : FuncId) (u : V) (bs : List Box) : Option (Unit × List Box) := match u with
  | .fn g [] => bif g == f then some ((), bs) else none
  | _ => none
def Sh.dec (n : Nat) : (s : Sh) → V → List Box → Option (s.D × List Box)
  | .one t, v, bs => decOne t v bs
  | .agg t, v, bs => decAgg t v bs
  | .own e t, v, bs => decOwn n e t v bs
  | .ptr tid t, v, bs => decPtr n tid t v bs
  | .gown s v, u, bs => decGown n s v u bs
  | .fn f, v, bs => decFn f v bs
def decs (n : Nat) : (l : List Sh) → List V → List Box → Option (Tup l × List Box)
  | [], [], bs => some ((), bs)
  | [s], [v], bs => s.dec n v bs
  | s :: s' :: r, v :: vs, bs => (s.dec n v bs).bind fun p => (decs (n + s.nb) (s' :: r) vs p.2).bind fun q => some ((p.1, q.1), q.2)
  | _, _, _ => none

variable {e : TypeId} {t : Ty} {n : Nat}

theorem unSlc_eq {v : V} {l : List t.D} (h : unSlc e t v = some l) : v = .slc e t l := by
  unfold unSlc at h
  split at h
  · split at h
    · rename_i hh
      obtain ⟨rfl, rfl⟩ := hh
      obtain rfl := Option.some.inj h
      rfl
    · cases h
  · cases h
theorem unRow_eq {x : Box} {l : List t.D} (h : unRow e t x = some l) : x = .row e t l := by
  unfold unRow at h
  split at h
  · split at h
    · rename_i hh
      obtain ⟨rfl, rfl⟩ := hh
      obtain rfl := Option.some.inj h
      rfl
    · cases h
  · cases h
theorem packGS_eq [Base] {s v : TypeId} {cs r : List V} {x : GVal} (h : packGS s v cs = some (x, r)) : cs = unpack (.gval s v) x ++ r := by
  unfold packGS at h
  split at h
  case h_2 => cases h
  rw [cond_eq_ite] at h
  split at h
  case isFalse => cases h
  rename_i hk
  simp only [Bool.and_eq_true, decide_eq_true_eq] at hk
  obtain ⟨rfl, rfl⟩ := hk
  simp only [Option.bind_eq_some_iff] at h
  obtain ⟨l, hl, l2, hl2, h⟩ := h
  obtain rfl := unSlc_eq hl
  obtain rfl := unSlc_eq hl2
  cases h
  rfl
theorem packS_eq [Base] : ∀ {t : Ty} {cs r : List V} {x : t.D}, packS t cs = some (x, r) → cs = unpack t x ++ r := by
  intro t
  induction t with
  | int k =>
    intro cs r x h
    rcases cs with _ | ⟨v, cs⟩
    · simp [packS] at h
    · cases v <;> simp [packS, cond_eq_ite] at h
      obtain ⟨rfl, rfl, rfl⟩ := h
      rfl
  | bool =>
    intro cs r x h
    rcases cs with _ | ⟨v, cs⟩
    · simp [packS] at h
    · cases v <;> simp [packS] at h
      obtain ⟨rfl, rfl⟩ := h
      rfl
  | str =>
    intro cs r x h
    rcases cs with _ | ⟨v, cs⟩
    · simp [packS] at h
    · cases v <;> simp [packS] at h
      obtain ⟨rfl, rfl⟩ := h
      rfl
  | slice e t _ =>
    intro cs r x h
    rcases cs with _ | ⟨v, cs⟩
    · simp [packS] at h
    · simp only [packS, Option.bind_eq_some_iff, Option.some.injEq, Prod.mk.injEq] at h
      obtain ⟨l, hl, rfl, rfl⟩ := h
      obtain rfl := unSlc_eq hl
      rfl
  | pair a b iha ihb =>
    intro cs r x h
    simp only [packS, Option.bind_eq_some_iff, Option.some.injEq, Prod.mk.injEq] at h
    obtain ⟨⟨x1, r1⟩, h1, ⟨x2, r2⟩, h2, rfl, rfl⟩ := h
    rw [iha h1]
    have h2 : packS b r1 = some (x2, r2) := h2
    rw [ihb h2]
    simp [unpack]
  | gval s v => exact fun {cs r x} h => packGS_eq h
theorem packS1_eq [Base] {cs : List V} {x : t.D} (h : packS1 t cs = some x) : cs = unpack t x := by
  unfold packS1 at h
  simp only [Option.bind_eq_some_iff] at h
  obtain ⟨⟨y, r⟩, h1, h2⟩ := h
  rcases r with _ | _
  · obtain rfl := Option.some.inj h2
    simpa using packS_eq h1
  · cases h2

theorem Sh.dec_eq [Base] {n : Nat} {s : Sh} {v : V} {bs bs' : List Box} {x : s.D} (h : s.dec n v bs = some (x, bs')) : v = (s.enc n x).1 ∧ bs = (s.enc n x).2 ++ bs' := by
  cases s with
  | one t =>
    simp only [Sh.dec, decOne, cond_eq_ite] at h
    split at h
    case isFalse => cases h
    simp only [Option.bind_eq_some_iff, Option.some.injEq, Prod.mk.injEq] at h
    obtain ⟨y, hy, rfl, rfl⟩ := h
    have := packS1_eq hy
    exact ⟨by simp only [Sh.enc]; rw [← this]; rfl, rfl⟩
  | agg t =>
    simp only [Sh.dec, decAgg] at h
    split at h
    case h_2 => cases h
    simp only [Option.bind_eq_some_iff, Option.some.injEq, Prod.mk.injEq] at h
    obtain ⟨y, hy, rfl, rfl⟩ := h
    have := packS1_eq hy
    exact ⟨by simp [Sh.enc, ← this], rfl⟩
  | own e t =>
    simp only [Sh.dec, decOwn] at h
    split at h
    case h_2 => cases h
    simp only [cond_eq_ite] at h
    split at h
    case isFalse => cases h
    rename_i hb
    simp only [Option.bind_eq_some_iff, Option.some.injEq, Prod.mk.injEq] at h
    obtain ⟨y, hy, rfl, rfl⟩ := h
    obtain rfl := unRow_eq hy
    obtain rfl := eq_of_beq hb
    exact ⟨rfl, rfl⟩
  | ptr tid t =>
    simp only [Sh.dec, decPtr] at h
    split at h
    case h_2 => cases h
    simp only [cond_eq_ite] at h
    split at h
    case isFalse => cases h
    rename_i hb
    simp only [Option.bind_eq_some_iff, Option.some.injEq, Prod.mk.injEq] at h
    obtain ⟨y, hy, rfl, rfl⟩ := h
    obtain rfl := eq_of_beq hb
    unfold unCells at hy
    split at hy
    · rw [cond_eq_ite] at hy
      split at hy
      · rename_i ht
        obtain rfl := eq_of_beq ht
        have := packS1_eq hy
        subst this
        exact ⟨rfl, rfl⟩
      · cases hy
    · cases hy
  | gown s v =>
    simp only [Sh.dec, decGown] at h
    split at h
    case h_2 => cases h
    simp only [cond_eq_ite] at h
    split at h
    case isFalse => cases h
    rename_i hb
    simp only [Bool.and_eq_true, decide_eq_true_eq, beq_iff_eq] at hb
    obtain ⟨⟨rfl, rfl⟩, rfl, rfl⟩ := hb
    simp only [Option.bind_eq_some_iff, Option.some.injEq, Prod.mk.injEq] at h
    obtain ⟨y, hy, z, hz, rfl, rfl⟩ := h
    obtain rfl := unRow_eq hy
    obtain rfl := unRow_eq hz
    exact ⟨rfl, rfl⟩
  | fn f =>
    simp only [Sh.dec, decFn] at h
    split at h
    case h_2 => cases h
    simp only [cond_eq_ite] at h
    split at h
    case isFalse => cases h
    rename_i hb
    obtain rfl := eq_of_beq hb
    simp only [Option.some.injEq, Prod.mk.injEq] at h
    obtain ⟨_, rfl⟩ := h
    exact ⟨rfl, rfl⟩

theorem decs_eq [Base] : ∀ {l : List Sh} {n : Nat} {vs : List V} {bs bs' : List Box} {x : Tup l}, decs n l vs bs = some (x, bs') → vs = (encs n l x).1 ∧ bs = (encs n l x).2 ++ bs'
  | [], n, vs, bs, bs', x, h => by
    cases vs <;> simp only [decs, Option.some.injEq, Prod.mk.injEq, reduceCtorEq] at h
    obtain ⟨_, rfl⟩ := h
    exact ⟨rfl, rfl⟩
  | [s], n, vs, bs, bs', x, h => by
    rcases vs with _ | ⟨v, _ | ⟨_, _⟩⟩ <;> simp only [decs, reduceCtorEq] at h
    obtain ⟨h1, h2⟩ := Sh.dec_eq h
    exact ⟨by rw [encs, ← h1], h2⟩
  | s :: s' :: r, n, vs, bs, bs', x, h => by
    rcases vs with _ | ⟨v, vs⟩
    · simp [decs] at h
    simp only [decs, Option.bind_eq_some_iff, Option.some.injEq, Prod.mk.injEq] at h
    obtain ⟨⟨x1, b1⟩, h1, ⟨x2, b2⟩, h2, rfl, rfl⟩ := h
    obtain ⟨e1, e2⟩ := Sh.dec_eq h1
    obtain ⟨e3, e4⟩ := decs_eq h2
    refine ⟨?_, ?_⟩
    · rw [encs, ← e1, ← e3]
    · rw [encs, e2]
      have e4 : b1 = _ := e4
      rw [e4, List.append_assoc]

theorem Sh.enc_nb (n : Nat) (s : Sh) (x : s.D) : (s.enc n x).2.length = s.nb := by cases s <;> rfl
def nbs (l : List Sh) : Nat := (l.map Sh.nb).sum
theorem encs_nb [Base] : ∀ (l : List Sh) (n : Nat) (x : Tup l), (encs n l x).2.length = nbs l
  | [], n, x => rfl
  | [s], n, x => by rw [encs]; simp [Sh.enc_nb, nbs]
  | s :: s' :: r, n, x => by rw [encs]; simp only [List.length_append, Sh.enc_nb, encs_nb (s' :: r)]; simp [nbs]

/-! ### signatures -/
structure Sig where
  args : List Sh
  res : List Sh

def Sh.isPtr : Sh → Bool
  | .ptr _ _ => true
  | _ => false
@[reducible] def Sig.ps (g : Sig) : List Sh := g.args.filter Sh.isPtr
/-- What comes out: the results, and what the pointers lead to. -/
@[reducible] def Sig.Out (g : Sig) : Type := Tup g.res × Tup g.ps
@[reducible] def Sig.In (g : Sig) : Type := Tup g.args

def oneV : List V → V
  | [v] => v
  | vs => .tup vs
theorem oneV_encs {s s' : Sh} {r : List Sh} {n : Nat} (x : Tup (s :: s' :: r)) : oneV (encs n (s :: s' :: r) x).1 = .tup (encs n (s :: s' :: r) x).1 := by
  rcases r with _ | ⟨_, _⟩ <;> simp [encs, oneV]

def Sig.enc (g : Sig) (y : g.Out) : V × List Box := (oneV (encs (nbs g.ps) g.res y.1).1, (encs 0 g.ps y.2).2 ++ (encs (nbs g.ps) g.res y.1).2)
def ptrVs : Nat → List Sh → List V
  | _, [] => []
  | n, _ :: r => .ptr n 0 :: ptrVs (n + 1) r
def Sig.unOne (g : Sig) (v : V) : Option (List V) := match g.res with
  | [_] => match v with
    | .tup _ => none
    | v => some [v]
  | _ => match v with
    | .tup vs => some vs
    | _ => none
def Sig.dec (g : Sig) (v : V) (bs : List Box) : Option g.Out :=
  (decs 0 g.ps (ptrVs 0 g.ps) bs).bind fun p => (g.unOne v).bind fun vs => (decs (nbs g.ps) g.res vs p.2).bind fun q => match q.2 with
  | [] => some (q.1, p.1)
  | _ => none
def Sig.decA (g : Sig) (vs : List V) (bs : List Box) : Option g.In := (decs 0 g.args vs bs).bind fun p => match p.2 with
  | [] => some p.1
  | _ => none

theorem Sig.decA_eq [Base] {g : Sig} {vs : List V} {bs : List Box} {x : g.In} (h : g.decA vs bs = some x) : vs = (encs 0 g.args x).1 ∧ bs = (encs 0 g.args x).2 := by
  unfold Sig.decA at h
  simp only [Option.bind_eq_some_iff] at h
  obtain ⟨⟨y, b⟩, h1, h2⟩ := h
  obtain ⟨e1, e2⟩ := decs_eq h1
  rcases b with _ | _
  · obtain rfl := Option.some.inj h2
    exact ⟨e1, by simpa using e2⟩
  · cases h2
theorem Sig.dec_eq [Base] {g : Sig} {v : V} {bs : List Box} {y : g.Out} (h : g.dec v bs = some y) : v = (g.enc y).1 ∧ bs = (g.enc y).2 := by
  unfold Sig.dec at h
  simp only [Option.bind_eq_some_iff] at h
  obtain ⟨⟨y1, b1⟩, h1, vs, hv, ⟨y2, b2⟩, h2, h⟩ := h
  obtain ⟨_, e2⟩ := decs_eq h1
  obtain ⟨e3, e4⟩ := decs_eq h2
  rcases b2 with _ | _
  · obtain rfl := Option.some.inj h
    refine ⟨?_, ?_⟩
    · unfold Sig.enc
      obtain ⟨gargs, gres⟩ := g
      rcases gres with _ | ⟨s, _ | ⟨s', r⟩⟩
      · cases v <;> simp [Sig.unOne] at hv
        subst hv
        rw [e3]
        rfl
      · rw [e3] at hv
        show v = (s.enc _ y2).1
        cases v <;> simp [Sig.unOne, encs] at hv <;> exact hv
      · cases v <;> simp [Sig.unOne] at hv
        subst hv
        rw [e3]
        exact (oneV_encs (s := s) (s' := s') (r := r) _).symm
    · have e4 : b1 = _ := e4
      rw [e2, e4]
      simp [Sig.enc]
  · cases h

/-! ### contracts -/
def Con [Base] (P : Program) (g : FuncId) (sg : Sig) (S : sg.In → Option sg.Out) : Prop :=
  ∀ x y, S x = some y → Meets P g (encs 0 sg.args x).1 (encs 0 sg.args x).2 (sg.enc y).1 (sg.enc y).2

theorem Con.mono [Base] {P : Program} {g : FuncId} {sg : Sig} {S S' : sg.In → Option sg.Out} (h : Con P g sg S) (hS : ∀ x y, S' x = some y → S x = some y) : Con P g sg S' := fun x y hx => h x y (hS x y hx)

variable {ρ : Type} {P : Program} {tt : TT}

def orc (sg : Sig) (S : sg.In → Option sg.Out) : Orc ρ := fun args bxs K => (sg.decA args bxs).bind fun x => (S x).bind fun y => K (sg.enc y).1 (sg.enc y).2

theorem Con.real [Base] {g : FuncId} {sg : Sig} {S : sg.In → Option sg.Out} (h : Con P g sg S) : Real P g (orc (ρ := ρ) sg S) := by
  refine Real.of_meets fun args bxs K r hc => ?_
  simp only [orc, Option.bind_eq_some_iff] at hc
  obtain ⟨x, hx, y, hy, hK⟩ := hc
  obtain ⟨rfl, rfl⟩ := Sig.decA_eq hx
  exact ⟨_, _, hK, h x y hy⟩
theorem orc_nat {sg : Sig} {S : sg.In → Option sg.Out} : NatO (orc (ρ := ρ) sg S) := by
  intro args bxs K r hc
  simp only [orc, Option.bind_eq_some_iff] at hc
  obtain ⟨x, hx, y, hy, hK⟩ := hc
  exact ⟨(sg.enc y).1, (sg.enc y).2, fun K' => by simp [orc, hx, hy]⟩

def Sh.md : Sh → Md
  | .one (.slice e t) => .dat (.slice e t)
  | .agg t => .rec_ t
  | .own e t => .own e t
  | .gown s v => .agg_ [.keep, .keep, .keep, .own s .str, .own v (.gval s v)]
  | _ => .keep

/-- The functions that are called, with what they do. -/
abbrev Tbl (ρ : Type) := List (FuncId × List Md × Orc ρ)
def Tbl.at : Tbl ρ → FuncId → List Md × Orc ρ
  | [], _ => ([], fun _ _ _ => none)
  | (n, x) :: r, g => cond (n == g) x (Tbl.at r g)
def row (g : FuncId) (sg : Sig) (S : sg.In → Option sg.Out) : FuncId × List Md × Orc ρ := (g, sg.args.map Sh.md, orc sg S)
structure TblOK [Base] (P : Program) (t : Tbl ρ) : Prop where
  ok : ∀ g args bxs K r, (t.at g).2 args bxs K = some r → Callable P g ∧ Real P g (t.at g).2
  nat : ∀ g, NatO (t.at g).2
theorem TblOK.nil [Base] : TblOK P ([] : Tbl ρ) := ⟨fun _ _ _ _ _ h => (nomatch h), fun _ _ _ _ _ h => (nomatch h)⟩
theorem TblOK.cons [Base] {t : Tbl ρ} {g : FuncId} {sg : Sig} {S : sg.In → Option sg.Out} (hc : Callable P g) (h : Con P g sg S) (ht : TblOK P t) : TblOK P (row g sg S :: t) := by
  refine ⟨fun g' args bxs K r hr => ?_, fun g' => ?_⟩
  · by_cases e : g = g'
    · subst e
      have : Tbl.at (row g sg S :: t) g = (sg.args.map Sh.md, orc sg S) := by simp [Tbl.at, row]
      rw [this]
      exact ⟨hc, h.real⟩
    · have : Tbl.at (row g sg S :: t) g' = t.at g' := by simp only [Tbl.at, row]; rw [show (g == g') = false from beq_eq_false_iff_ne.2 e]; rfl
      rw [this] at hr ⊢
      exact ht.ok g' args bxs K r hr
  · by_cases e : g = g'
    · subst e
      have : Tbl.at (row g sg S :: t) g = (sg.args.map Sh.md, orc sg S) := by simp [Tbl.at, row]
      rw [this]
      exact orc_nat
    · have : Tbl.at (row g sg S :: t) g' = t.at g' := by simp only [Tbl.at, row]; rw [show (g == g') = false from beq_eq_false_iff_ne.2 e]; rfl
      rw [this]
      exact ht.nat g'

/-! ### a function out of its evaluation -/
def bmOf : Sh → Option Ty
  | .ptr _ t => some t
  | _ => none
def mkE (tt : TT) (t : (ρ : Type) → Tbl ρ) (heads : List (Nat × Head)) (cuts : List Nat) (sg : Sig) (rs : List ResultVar) : Env sg.Out :=
  { tt := tt, C := (t sg.Out).at, heads := heads, cuts := cuts, np := nbs sg.args, fin := finish tt (nbs sg.args) rs (sg.res.map Sh.md) (sg.ps.map bmOf) sg.dec }

theorem Con.of_eval [Base] {g : FuncId} {fn : Func} {c : Code} {t : (ρ : Type) → Tbl ρ} {heads : List (Nat × Head)} {cuts : List Nat} {sg : Sig} {S : sg.In → Option sg.Out}
    (hmix : P.follows .mixedOrders = true) (hT : TTok P tt) (ht : ∀ ρ, TblOK P (t ρ)) (hg : P.funcs[g]? = some fn) (hb : fn.body = some c)
    (h : ∀ x y, S x = some y → ∃ n, evalFn (fun _ => mkE tt t heads cuts sg fn.results.toList) n c fn.ntmps (encs 0 sg.args x).1 (encs 0 sg.args x).2 = some y) : Con P g sg S := by
  intro x y hy
  obtain ⟨n, hn⟩ := h x y hy
  have hC : Reals P (t sg.Out).at := (ht _).ok
  refine evalFn_sound (E := fun _ => mkE tt t heads cuts sg fn.results.toList) (n := n) (mds := sg.res.map Sh.md) (bms := sg.ps.map bmOf) (K0 := sg.dec) hg hb
    (fun _ => ⟨hT, hC, drawOK hT hC (ht _).nat⟩) hmix (fun _ => (encs_nb _ _ _).symm) (fun _ => ?_) hn fun res bs hk => Sig.dec_eq hk
  rw [encs_nb]
  rfl
end Go.Lin
end

/- Rounds, as a plain function's. -/
section
namespace Go.Lin

/-- The places to which a loop's head comes back, as a plain function with fuel. -/
def go {L ρ : Type} (step : (L → Option ρ) → L → Option ρ) : Nat → L → Option ρ
  | 0, _ => none
  | n + 1, l => step (go step n) l

def hasRegion (rid : Nat) : Code → Bool
  | .region id _ _ => id == rid
  | .seq a b => hasRegion rid a || hasRegion rid b
  | .cond _ a b => hasRegion rid a || hasRegion rid b
  | .block _ c => hasRegion rid c
  | .loop c => hasRegion rid c
  | .scope c => hasRegion rid c
  | _ => false

/-- What is still to be done where a loop begins anew (its first region is rid), or at a region. -/
def itemsAt (rid : Nat) : Code → List Item → List Item
  | .region id ops d, k => .code (.region id ops d) :: k
  | .seq a b, k => cond (hasRegion rid a) (itemsAt rid a (.code b :: k)) (itemsAt rid b k)
  | .cond _ a b, k => cond (hasRegion rid a) (itemsAt rid a k) (itemsAt rid b k)
  | .block id c, k => itemsAt rid c (.inBlock id :: k)
  | .loop c, k => cond (firstRegion c == rid) (.inLoop c :: k) (itemsAt rid c (.inLoop c :: k))
  | _, k => k

def slotsAt (n : Nat) (l : List (Nat × V)) : List V := l.foldl (fun s p => s.set p.1 p.2) (List.replicate n .junk)

variable {ρ : Type}

/-- One round. -/
def run1 (E : Env ρ) (again : List Item → St → Option ρ) (k : List Item) (σ : St) : Option ρ := match k with
  | .inLoop c :: k => runS E again 100000 (.code c :: .inLoop c :: k) σ
  | .code (.region id ops d) :: k => runS (E.nocut id) again 100000 (.code (.region id ops d) :: k) σ
  | _ => none

theorem run_succ {E : Env ρ} {n : Nat} (k : List Item) (σ : St) : run (fun _ => E) (n + 1) k σ = run1 E (run (fun _ => E) n) k σ := rfl

theorem run_go [Base] {L : Type} {E : Env ρ} {dec : L → List Item × St} {step : (L → Option ρ) → L → Option ρ}
    (h : ∀ (again : List Item → St → Option ρ) l, run1 E again (dec l).1 (dec l).2 = step (fun l => again (dec l).1 (dec l).2) l) :
    ∀ n, (fun l => run (fun _ => E) n (dec l).1 (dec l).2) = go step n := by
  intro n
  induction n with
  | zero => rfl
  | succ n ih =>
    funext l
    rw [run_succ, h, ih]
    rfl

/-- A function's body, with what is done at the heads of loops left open. -/
def eval0 (E : Env ρ) (again : List Item → St → Option ρ) (c : Code) (ntmps : Nat) (args : List V) (bxs : List Box) : Option ρ :=
  runS E again 100000 [.code c] ⟨args ++ List.replicate (ntmps - args.length) .undef, bxs⟩

theorem evalFn_go [Base] {L : Type} {E : Env ρ} {dec : L → List Item × St} {step : (L → Option ρ) → L → Option ρ} {c : Code} {ntmps : Nat} {args : List V} {bxs : List Box} {body : (L → Option ρ) → Option ρ}
    (h : ∀ (again : List Item → St → Option ρ) l, run1 E again (dec l).1 (dec l).2 = step (fun l => again (dec l).1 (dec l).2) l)
    (hb : ∀ (again : List Item → St → Option ρ), eval0 E again c ntmps args bxs = body fun l => again (dec l).1 (dec l).2) (n : Nat) :
    evalFn (fun _ => E) n c ntmps args bxs = body (go step n) := by
  rw [← run_go h n]
  exact hb _

theorem Callable.of {P : Program} {g : FuncId} {fn : Func} (h : P.funcs[g]? = some fn) (hn : (fn.name == "runtime.NumGoroutine") = false) (hb : fn.body.isSome = true) : Callable P g :=
  ⟨fn, h, fun e => by rw [e] at hn; simp at hn, fun e => by rw [e] at hb; cases hb⟩

/-- A contract for each fuel is one for what comes out with some. -/
theorem Con.fuel [Base] {P : Program} {g : FuncId} {sg : Sig} {S : Nat → sg.In → Option sg.Out} (h : ∀ n, Con P g sg (S n)) {S' : sg.In → Option sg.Out} (hs : ∀ x y, S' x = some y → ∃ n, S n x = some y) : Con P g sg S' :=
  fun x y hx => let ⟨n, hn⟩ := hs x y hx; h n x y hn

/-- A tree put together anew. -/
def re (x : GVal) : GVal := ⟨x.kind, x.text, x.num, x.keys, x.kids⟩
theorem re_eq (x : GVal) : re x = x := by cases x; rfl

def bs (l : List Nat) : ByteArray := ⟨(l.map UInt8.ofNat).toArray⟩
end Go.Lin
end

/- From contracts to rows. -/
section
namespace Go.Lin
open Go.ChangeShapes Go.WideShapes Go.ChangeAt Go.RowKit Go.Proofs

section
variable {H : Type} {enc : TypeId × Value → H} {P : Program}

/-- A call that leaves what was there as it was: its row's closing condition. -/
theorem post_below {f : Func} {s : ChangeSpec} {apart fresh handsOn again : Bool} {W W' : World} {args : Array Value} {v : Value} {ds gs : List (DataW H)} {before pa pv : List MemPlace}
    (hW : DataW.Whole enc P f.params.toList s.vars apart W args.toList ds gs before) (hb : Below W.heap.size W W')
    (hres : ∀ (b : Nat) (sp : Nat → Bool) (hd : Bool), DataW.TrodAll enc P W' b sp hd f.resultTypes.toList (v.resultList f.resultTypes.size) (s.fn H (ds ++ gs)).results [])
    (hargs : ∀ sp : Nat → Bool, (∀ p ∈ before, sp p.block = true) → DataW.TrodAll enc P W' 0 sp true f.params.toList args.toList (s.fn H (ds ++ gs)).args pa)
    (hvars : ∀ sp : Nat → Bool, (∀ p ∈ before, sp p.block = true) → DataW.TrodVars enc P W' sp s.vars (s.fn H (ds ++ gs)).vars pv)
    (hps : before = pa ++ pv)
    (hok : ∀ (j : Nat) (t : TypeId) (r : Value), f.resultTypes[j]? = some t → (v.resultList f.resultTypes.size)[j]? = some r → Value.okWide P W' .any 0 t r) :
    s.post enc P f apart fresh handsOn again W args v W' := by
  have hlt : ∀ p ∈ before, p.block < W.heap.size := fun p hp => hW.lt p hp
  have hold : ∀ p ∈ before, (fun b => decide (b < W.heap.size)) p.block = true := fun p hp => by simpa using hlt p hp
  refine ⟨ds, gs, before, [], pa, pv, hW, hres _ _ _, hargs _ hold, hvars _ hold, World.keptBut_mono (fun p hp => ⟨hp, ?_⟩) (hb.frame (· ∈ before)), fun _ => ?_⟩
  · rw [hps, List.mem_append] at hp
    exact Or.inr hp
  · obtain ⟨_, _, _, _, _, hz, hn⟩ := hW
    refine ⟨hok, _, _, ([] ++ pa) ++ pv, ⟨[] ++ pa, pv, trodAll_append (hargs _ (fun _ _ => rfl)) (hres _ _ _), hvars _ (fun _ _ => rfl), rfl, ?_, ?_⟩, ?_⟩
    · intro b off hp
      have hp' : MemPlace.cell b off ∈ before := by rw [hps]; simpa using hp
      rw [hb.frozen (p := ⟨b, off, none⟩) (hlt _ hp')]
      exact hz b off hp'
    · intro ha
      have := hn ha
      rw [hps] at this
      simpa using this
    · intro p hp _
      rw [hps]
      simpa using hp
end
end Go.Lin
end
