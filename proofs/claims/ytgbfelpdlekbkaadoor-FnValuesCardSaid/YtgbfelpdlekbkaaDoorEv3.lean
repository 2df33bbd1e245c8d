/- Slices cut and grown. -/
import Derived.Test.YtgbfelpdlekbkaaDoorEv2
set_option linter.unusedVariables false
set_option linter.unusedSimpArgs false
section
namespace Go.Lin

variable {F F' : Fz} {w w' : World} {m m' : Nat → Value} {bs bs' : List Box} {O : Nat → Prop} {σ : St} {a : Act} {P : Program} {tt : TT} {ρ : Type} {r : ρ} {K : V → St → Option ρ} {o : Oper}

theorem len_sound [Base] (hb : RBs F w m σ.boxes) {v : V} {c : Value} {n : Nat} (h : σ.len v = some n) (hv : RV F w m σ.boxes v c) : (∃ A cap, c = .slice A n cap ∧ n ≤ cap ∧ cap ≤ maxLen) ∨ ∃ s, v = .str s ∧ c = .string s ∧ n = s.size := by
  cases v with
  | slc e t l =>
    obtain rfl := Option.some.inj h
    obtain ⟨A, cap, he, h1, h2, _⟩ := Shows.of_rep (e := e) hv
    exact .inl ⟨A, cap, he, h1, h2⟩
  | nils =>
    obtain rfl := Option.some.inj h
    exact .inl ⟨none, 0, hv, by omega, by simp [maxLen]⟩
  | str s =>
    obtain rfl := Option.some.inj h
    exact .inr ⟨s, rfl, hv, rfl⟩
  | own b =>
    obtain ⟨hlt, rfl⟩ := hv
    simp only [St.len] at h
    split at h
    · rename_i e t l hbox
      obtain rfl := Option.some.inj h
      obtain ⟨A, cap, he, h1, h2, _⟩ := Shows.of_row (hb.box b _ (getD_box hbox (by simp)))
      exact .inl ⟨A, cap, he, h1, h2⟩
    · rename_i e t l hbox
      obtain rfl := Option.some.inj h
      obtain ⟨A, cap, he, h1, h2, _⟩ := Shows.of_rep (e := e) (hb.box b _ (getD_box hbox (by simp)))
      exact .inl ⟨A, cap, he, h1, h2⟩
    · cases h
  | _ => simp [St.len] at h

theorem list_map_ev [Base] {xs : Array Operand} (hs : All2 (RV F w m σ.boxes) σ.slots a.tmps.toList) : All2 (RV F w m σ.boxes) (xs.toList.map σ.ev) (xs.map a.eval).toList := by
  rw [Array.toList_map]
  generalize xs.toList = l
  induction l with
  | nil => exact .nil
  | cons x l ih => exact .cons (ev_sound hs x) ih

/-- What a slice's bounds come to. -/
theorem run_bounds_slice {len cap : Nat} {lo hi : Option Value} {l h : Int} (hlo : lo = none ∧ l = 0 ∨ ∃ k, lo = some (.int k l)) (hhi : hi = none ∧ h = len ∨ ∃ k, hi = some (.int k h)) (h0 : 0 ≤ h) (h1 : h ≤ len) (hlc : len ≤ cap)
    (h2 : 0 ≤ l) (h3 : l ≤ h) : (Instr.sliceBounds true len cap lo hi none).run P w = .ok (l.toNat, h.toNat, cap) w := by
  have hc : h ≤ (cap : Int) := by omega
  have hh : 0 ≤ h ∧ h ≤ (cap : Int) := ⟨h0, hc⟩
  have hl : 0 ≤ l ∧ l ≤ ((h.toNat : Nat) : Int) := ⟨h2, by omega⟩
  rcases hlo with ⟨rfl, rfl⟩ | ⟨k, rfl⟩ <;> rcases hhi with ⟨rfl, rfl⟩ | ⟨k', rfl⟩
  · simp [Instr.sliceBounds, Sem.run_pure]
  · simp [Instr.sliceBounds, Instr.sliceBound, asIntOf, Sem.run_pure, hh]
  · have hl' : 0 ≤ l ∧ l ≤ (len : Int) := ⟨h2, by omega⟩
    simp [Instr.sliceBounds, Instr.sliceBound, asIntOf, Sem.run_pure, hl']
  · simp [Instr.sliceBounds, Instr.sliceBound, asIntOf, Sem.run_pure, hh, h2]
    omega
theorem run_bounds_string {len : Nat} {lo hi : Option Value} {l h : Int} (hlo : lo = none ∧ l = 0 ∨ ∃ k, lo = some (.int k l)) (hhi : hi = none ∧ h = len ∨ ∃ k, hi = some (.int k h)) (h0 : 0 ≤ h) (h1 : h ≤ len)
    (h2 : 0 ≤ l) (h3 : l ≤ h) : (Instr.sliceBounds false len len lo hi none).run P w = .ok (l.toNat, h.toNat, len) w := by
  have hh : 0 ≤ h ∧ h ≤ (len : Int) := ⟨h0, h1⟩
  rcases hlo with ⟨rfl, rfl⟩ | ⟨k, rfl⟩ <;> rcases hhi with ⟨rfl, rfl⟩ | ⟨k', rfl⟩
  · simp [Instr.sliceBounds, Sem.run_pure]
  · simp [Instr.sliceBounds, Instr.sliceBound, asIntOf, Sem.run_pure, hh]
  · have hl' : 0 ≤ l ∧ l ≤ (len : Int) := ⟨h2, by omega⟩
    simp [Instr.sliceBounds, Instr.sliceBound, asIntOf, Sem.run_pure, hl']
  · simp [Instr.sliceBounds, Instr.sliceBound, asIntOf, Sem.run_pure, hh, h2]
    omega

theorem rep_cut [Base] {e : TypeId} {t : Ty} {l : List t.D} {A : Option Addr} {cap lo h : Nat} (hr : Rep F w (.slice e t) l [.slice A l.length cap]) (h1 : lo ≤ h) (h2 : h ≤ l.length) :
    Rep F w (.slice e t) ((l.take h).drop lo) [.slice (if cap = lo then A else A.map (·.add (lo * t.size))) (h - lo) (cap - lo)] := by
  obtain ⟨A', cap', ad, vs, he, hc, hm, hA, hel, hcell⟩ := hr.slice_inv
  simp only [List.cons.injEq, Value.slice.injEq, and_true, true_and] at he
  obtain ⟨rfl, rfl⟩ := he
  have hlen : ((l.take h).drop lo).length = h - lo := by simp; omega
  rw [← hlen]
  refine .slice (ad.add (lo * t.size)) (fun j => vs (lo + j)) (by omega) (by omega) (fun h0 => ?_) (fun j hj => ?_) fun j hj i u hu => ?_
  · have hlt : 0 < l.length := by omega
    obtain ⟨rfl, hF⟩ := hA hlt
    rw [if_neg (by omega)]
    exact ⟨rfl, by rw [block_add]; exact hF⟩
  · have hj' : lo + j < l.length := by omega
    have := hel (lo + j) hj'
    have e2 : ((l.take h).drop lo)[j] = l[lo + j] := by simp
    rw [e2]
    exact this
  · rw [add_add, ← Nat.add_assoc, ← Nat.add_mul]
    exact hcell (lo + j) (by omega) i u hu

theorem run_slice [Base] {t e : TypeId} (hT : TTok P tt) (hk : (tt.at t).kind = .slice e) {A : Option Addr} {len cap : Nat} {lo hi : Option Value} {l h : Int}
    (hb : (Instr.sliceBounds true len cap lo hi none).run P w = .ok (l.toNat, h.toNat, cap) w) :
    (Instr.sliceAt t (.slice A len cap) lo hi none).run P w = .ok (.slice (if cap = l.toNat then A else A.map (·.add (l.toNat * (tt.at e).size))) (h.toNat - l.toNat) (cap - l.toNat)) w := by
  obtain ⟨hu, hs⟩ := hT.slice hk
  simp only [Instr.sliceAt, Sem.run_bind, run_underlying hu, Result.andThen_ok, Instr.slice, hb, run_sizeOf_ hT hs, Sem.run_pure]

theorem own_take' {e : TypeId} {sz n h cap : Nat} {A : Option Addr} {xs : List Value} (ho : w.ownsRow 0 e sz (.slice A n cap) n xs) (hh : h ≤ n) : w.ownsRow 0 e sz (.slice A h cap) h (xs.take (h * sz)) := by
  have hl := ho.1
  have hmul : h * sz ≤ n * sz := Nat.mul_le_mul_right _ hh
  refine ⟨by rw [List.length_take, hl]; omega, ?_⟩
  rcases ho.2 with ⟨hv, hn⟩ | ⟨g, cap', cur, hv, hb, hg, hnc, hcm, hcs, htake⟩
  · injection hv with h1 h2 h3
    subst h1 h3
    obtain rfl : h = 0 := by omega
    exact .inl ⟨rfl, rfl⟩
  · injection hv with h1 h2 h3
    subst h1 h3
    refine .inr ⟨g, cap, cur, rfl, hb, hg, by omega, hcm, hcs, ?_⟩
    rw [← htake, List.take_take]
    congr 1
    omega
theorem Reps.take [Base] {t : Ty} {l : List t.D} {xs : List Value} (h : Reps F w t l xs) (n : Nat) : Reps F w t (l.take n) (xs.take (n * t.size)) := by
  obtain ⟨cs, rfl, hh⟩ := h
  refine ⟨cs.take n, ?_, hh.take n⟩
  have hl := Reps.lens hh
  clear hh
  induction cs generalizing n with
  | nil => simp
  | cons c cs ih =>
    cases n with
    | zero => simp
    | succ n =>
      have hc : c.length = t.size := hl c (by simp)
      rw [List.take_succ_cons, List.flatten_cons, List.flatten_cons, ← ih n fun d hd => hl d (by simp [hd]), List.take_append]
      have e1 : (n + 1) * t.size - c.length = n * t.size := by rw [hc, Nat.succ_mul]; omega
      rw [e1, List.take_of_length_le (by rw [hc, Nat.succ_mul]; omega)]

theorem step_cut [Base] (hT : TTok P tt) (hR : Rel O F m σ a w) (hO : ∀ g, w.heap.size ≤ g → O g) {t : TypeId} {x : Operand} {lo hi : Option Operand} (ho : o.op = .slice t x lo hi none)
    (h : cutC tt t (σ.ev x) (lo.map σ.ev) (hi.map σ.ev) σ K = some r) : Yields P O F w m σ.boxes K r a o := by
  have hx := ev_sound hR.slots x
  unfold cutC at h
  simp only [Option.bind_eq_some_iff] at h
  obtain ⟨l, hl, n, hn, hh, hhh, h⟩ := h
  replace h := chk_some h
  obtain ⟨h0', h⟩ := h
  have h0 : 0 ≤ hh := by simpa using h0'
  clear h0'
  replace h := chk_some h
  obtain ⟨h1', h⟩ := h
  have h1 : hh ≤ (n : Int) := by simpa using h1'
  clear h1'
  replace h := chk_some h
  obtain ⟨h2', h⟩ := h
  have h2 : 0 ≤ l := by simpa using h2'
  clear h2'
  replace h := chk_some h
  obtain ⟨h3', h⟩ := h
  have h3 : l ≤ hh := by simpa using h3'
  clear h3'
  have hlo : lo.map a.eval = none ∧ l = 0 ∨ ∃ k, lo.map a.eval = some (.int k l) := by
    cases lo with
    | none => exact .inl ⟨rfl, by simpa using hl.symm⟩
    | some y =>
      have hy := ev_sound hR.slots y
      simp only [Option.map_some] at hl ⊢
      split at hl
      · cases ‹some _ = none›
      · rename_i k n' he
        injection he with he
        rw [he] at hy
        obtain rfl := Option.some.inj hl
        exact .inr ⟨k, by rw [RV.int_inv hy]⟩
      · cases hl
  have hhi : hi.map a.eval = none ∧ hh = n ∨ ∃ k, hi.map a.eval = some (.int k hh) := by
    cases hi with
    | none => exact .inl ⟨rfl, by simpa using hhh.symm⟩
    | some y =>
      have hy := ev_sound hR.slots y
      simp only [Option.map_some] at hhh ⊢
      split at hhh
      · cases ‹some _ = none›
      · rename_i k n' he
        injection he with he
        rw [he] at hy
        obtain rfl := Option.some.inj hhh
        exact .inr ⟨k, by rw [RV.int_inv hy]⟩
      · cases hhh
  have hop : ∀ {cv}, (Instr.sliceAt t (a.eval x) (lo.map a.eval) (hi.map a.eval) none).run P w = .ok cv w → (execOp a.eval o).run P w = .ok (.value cv) w := by
    intro cv hrun
    simp only [execOp, ho, Option.map_none]
    exact run_v hrun
  have hln : l.toNat ≤ hh.toNat := by omega
  have hhn : hh.toNat ≤ n := by omega
  -- a part of a slice that is written no more
  have shared : ∀ {F' : Fz} {bs' : List Box} (e e' : TypeId) (t' : Ty) (xs : List t'.D), (tt.at t).kind = .slice e → n = xs.length → (t'.size == (tt.at e).size) = true → Rep F' w (.slice e' t') xs [a.eval x] →
      ∃ cv, (execOp a.eval o).run P w = .ok (.value cv) w ∧ RV F' w m bs' (.slc e' t' ((xs.take hh.toNat).drop l.toNat)) cv := by
    intro F' bs' e e' t' xs hk hnx hsz hrep
    subst hnx
    have hsz : t'.size = (tt.at e).size := by simpa using hsz
    obtain ⟨A, cap, _, _, he, hc, hm, _⟩ := hrep.slice_inv
    simp at he
    rw [he] at hrep
    refine ⟨_, hop (by rw [he]; exact run_slice hT hk (run_bounds_slice hlo hhi h0 h1 hc h2 h3)), ?_⟩
    have := rep_cut hrep hln hhn
    rw [hsz] at this
    exact this
  split at h
  · rename_i s hk hv
    rw [hv] at hx hn
    obtain rfl := Option.some.inj hn
    refine Yields.pure_ hR (cv := .string (s.extract l.toNat hh.toNat)) ?_ h rfl
    refine hop ?_
    rw [RV.str_inv hx]
    simp only [Instr.sliceAt, Sem.run_bind, run_underlying (hT.str hk), Result.andThen_ok, Instr.slice]
    simp [run_bounds_string hlo hhi h0 h1 h2 h3]
  · rename_i e e' t' xs hk hv
    rw [hv] at hx hn
    obtain rfl := Option.some.inj hn
    rw [cond_eq_ite] at h
    split at h
    case isFalse => cases h
    rename_i hsz
    obtain ⟨cv, hrun, hr⟩ := shared (F' := F) (bs' := σ.boxes) e e' t' xs hk rfl hsz hx
    exact Yields.pure_ hR hrun h hr
  · rename_i e hk hv
    rw [hv] at hx hn
    obtain rfl := Option.some.inj hn
    have hc : a.eval x = .slice none 0 0 := hx
    refine Yields.pure_ hR (cv := .slice none 0 0) ?_ h rfl
    refine hop ?_
    rw [hc]
    have := run_slice (A := none) (w := w) hT hk (run_bounds_slice (P := P) (w := w) (len := 0) (cap := 0) hlo hhi h0 h1 (Nat.le_refl _) h2 h3)
    rw [this]
    have e1 : hh.toNat = 0 := by omega
    have e2 : l.toNat = 0 := by omega
    simp [e1, e2]
  · rename_i e b hk hv
    rw [hv] at hx hn
    obtain ⟨hlt, hc⟩ := hx
    split at h
    · rename_i e' t' xs hlon hbox
      rw [cond_eq_ite] at h
      split at h
      case isFalse => cases h
      rename_i hsz
      have hsz : t'.size = (tt.at e).size := by simpa using hsz
      have hnx : n = xs.length := by
        simp only [St.len, hbox, Option.some.injEq] at hn
        exact hn.symm
      subst hnx
      have hlon' : lo = none := by
        cases lo with
        | none => rfl
        | some y => cases hlon
      subst hlon'
      obtain rfl : l = 0 := by simpa using hl.symm
      have hget := getD_box hbox (by simp)
      obtain ⟨A, cap, hmb, hc', hm', _⟩ := row_cells (hR.boxes.box b _ hget)
      obtain ⟨vs, hown, hreps, hnf⟩ := hR.boxes.box b _ hget
      have hrun := run_slice (A := A) (w := w) hT hk (run_bounds_slice (P := P) (w := w) hlo hhi h0 h1 hc' h2 h3)
      have hval : (Value.slice (if cap = (0 : Int).toNat then A else A.map (·.add ((0 : Int).toNat * (tt.at e).size))) (hh.toNat - (0 : Int).toNat) (cap - (0 : Int).toNat)) = .slice A hh.toNat cap := by
        cases A <;> simp [Addr.add]
      rw [hval] at hrun
      rw [hmb] at hown
      have hown' := own_take' hown hhn
      refine ⟨.slice A hh.toNat cap, w, hop (by rw [hc, hmb]; exact hrun), .rel h (hR.grow hget (hv := .slice A hh.toNat cap) (Nat.le_refl _) (fun _ _ _ => rfl) (fun g hg => .inl (by rw [hmb]; cases A <;> exact hg)) hO ?_) ?_ (.refl O w) (Later.grow hget (fun _ _ => rfl)) fun _ h => .inl h⟩
      · refine ⟨vs.take (hh.toNat * t'.size), ?_, hreps.take hh.toNat, fun g hg => ?_⟩
        · rw [upd_same, List.length_take, Nat.min_eq_left hhn]
          exact hown'
        · rw [upd_same] at hg
          exact hnf g (by rw [hmb]; cases A <;> exact hg)
      · exact ⟨by simp [St.newBox, St.setBox], (upd_same _ _ _).symm⟩
    · rename_i e' t' xs hbox _
      rw [cond_eq_ite] at h
      split at h
      case isFalse => cases h
      rename_i hsz
      have hnx : n = xs.length := by
        simp only [St.len, hbox, Option.some.injEq] at hn
        exact hn.symm
      have hfz := frz_sound hR (v := .own b) (c := a.eval x) ⟨hlt, hc⟩
      have hbx : σ.boxes.getD b .dead = .row e' t' xs := hbox
      simp only [frz, hbx] at hfz
      obtain ⟨F', hf, hr⟩ := hfz
      obtain ⟨cv, hrun, hr'⟩ := shared (F' := F') (bs' := (σ.setBox b (.frow e' t' xs)).boxes) e e' t' xs hk hnx hsz hr
      exact ⟨cv, w, hrun, Out.of_froze hf (.pure_ (σ := σ.setBox b (.frow e' t' xs)) h hf.rel hr')⟩
    · rename_i e' t' xs hbox
      rw [cond_eq_ite] at h
      split at h
      case isFalse => cases h
      rename_i hsz
      have hnx : n = xs.length := by
        simp only [St.len, hbox, Option.some.injEq] at hn
        exact hn.symm
      obtain ⟨cv, hrun, hr⟩ := shared (F' := F) (bs' := σ.boxes) e e' t' xs hk hnx hsz (by rw [hc]; exact hR.boxes.box b _ (getD_box hbox (by simp)))
      exact Yields.pure_ hR hrun h hr
    · cases h
  · cases h
end Go.Lin
end

/- append, and the other built-in functions. -/
section
namespace Go.Lin

variable {F F' : Fz} {w w' : World} {m m' : Nat → Value} {bs bs' : List Box} {O : Nat → Prop} {σ : St} {a : Act} {P : Program} {tt : TT} {ρ : Type} {r : ρ} {K : V → St → Option ρ} {o : Oper}

theorem run_append_none (t ty e : TypeId) (i : TypeInfo) (size : Nat) (ht : P.underlying t = some (.slice e)) (hi : P.info? e = some i)
    (v : Value) (n : Nat) (xs : List Value) (hown : w.ownsRow 0 e size v n xs) (c : Nat) : (Builtin.append_ #[t, t] ty #[v, .slice none 0 c]).run P w = .ok v w := by
  rcases hown.2 with ⟨rfl, rfl⟩ | ⟨g, cap, cur, rfl, _, _, hnc, _⟩
  · simp [Builtin.append_, run_underlying ht, sizeOf, typeInfo, hi, Builtin.lenOf, Builtin.firstCells]
  · simp [Builtin.append_, run_underlying ht, sizeOf, typeInfo, hi, Builtin.lenOf, Builtin.firstCells, hnc, storeCells]

/-- What an append of a slice's elements leaves. -/
theorem run_append_shown [Base] {t ty e : TypeId} {elt : Ty} {inf : TypeInfo} {z : Value} (ht : P.underlying t = some (.slice e)) (hi : P.info? e = some inf) (hz : inf.zero = some z) (hsize : inf.size = elt.size) (hzs : z.cells.size = elt.size)
    {v : Value} {n : Nat} {xs : List Value} (hown : w.ownsRow 0 e elt.size v n xs) {l1 : List elt.D} {c : Value} (hs : Shows F w elt l1 c) (hlim : (n + l1.length) * inf.bytes ≤ 140737488355328) (hb0 : 0 < inf.bytes) :
    ∃ v' w' news, (Builtin.append_ #[t, t] ty #[v, c]).run P w = .ok v' w' ∧ Reps F w elt l1 news ∧ w'.ownsRow 0 e elt.size v' (n + l1.length) (xs ++ news) ∧ w.grownBy w' v.ownBlock ∧ (v'.ownBlock = v.ownBlock ∨ v'.ownBlock = some w.heap.size) := by
  obtain ⟨A, cap, news, rfl, hlc, hcm, hreps, hcell, hsome⟩ := hs.flat
  have hbig : n + l1.length ≤ maxLen := by
    simp only [maxLen]
    have := Nat.le_mul_of_pos_right (n + l1.length) hb0
    omega
  cases A with
  | none =>
    have h0 : ¬ 0 < l1.length := fun h0 => by obtain ⟨ad, h⟩ := hsome h0; cases h
    have : l1 = [] := List.eq_nil_of_length_eq_zero (by omega)
    subst this
    have hn : news = [] := List.eq_nil_of_length_eq_zero (by rw [hreps.length]; simp)
    subst hn
    exact ⟨v, w, [], run_append_none t ty e inf elt.size ht hi v n xs hown cap, hreps, by simpa using hown, World.grownBy.refl w _, .inl rfl⟩
  | some ad =>
    obtain ⟨v', w', hrun, h2, h3, _, h5⟩ := run_append_own_at (P := P) w 0 t ty e inf z elt.size inf.bytes ht hi hz hsize rfl hzs elt.size_pos v n xs hown ad l1.length cap news hreps.length (hcell ad rfl) hreps.one hbig hlim (Nat.zero_le _)
    exact ⟨v', w', news, hrun, hreps, h2, h3, h5⟩

theorem strCells_ints (s : ByteArray) : Lib.strCells s = (bytesOf s).map (Value.int .u8) := by simp [Lib.strCells, bytesOf]
theorem reps_ints {k : IntKind} (l : List Int) : Reps F w (.int k) l (l.map (Value.int k)) := by
  refine ⟨l.map fun n => [Value.int k n], ?_, ?_⟩
  · induction l with
    | nil => rfl
    | cons n l ih => rw [List.map_cons, List.map_cons, List.flatten_cons, ← ih]; rfl
  · induction l with
    | nil => exact .nil
    | cons n l ih => exact .cons .int ih

theorem run_append_str {t u ty e : TypeId} {inf : TypeInfo} (ht : P.underlying t = some (.slice e)) (hu : P.underlying u = some .string) (hi : P.info? e = some inf) (hz : inf.zero = some (.int .u8 0)) (hsize : inf.size = 1) (hby : inf.bytes = 1)
    {v : Value} {n : Nat} {xs : List Value} (hown : w.ownsRow 0 e 1 v n xs) (s : ByteArray) (hlim : n + s.size ≤ 140737488355328) :
    ∃ v' w', (Builtin.append_ #[t, u] ty #[v, .string s]).run P w = .ok v' w' ∧ w'.ownsRow 0 e 1 v' (n + s.size) (xs ++ Lib.strCells s) ∧ w.grownBy w' v.ownBlock ∧ (v'.ownBlock = v.ownBlock ∨ v'.ownBlock = some w.heap.size) := by
  obtain ⟨v', w', hrun, h2, h3, _⟩ := Lib.run_append_own_string (P := P) w 0 t u ty e inf ht hu hi hz hsize hby v n xs hown s (by simp only [maxLen]; omega) hlim (Nat.zero_le _)
  refine ⟨v', w', hrun, h2, h3, ?_⟩
  -- where the new row lies
  rcases hown.2 with ⟨rfl, rfl⟩ | ⟨g, cap, cur, rfl, hbg, hg, hnc, hcm, hcs, htake⟩
  · by_cases hm : s.size = 0
    · have hf := Lib.run_firstCells_string (P := P) w 1 s
      rw [hm] at hf
      have : (Builtin.append_ #[t, u] ty #[.slice none 0 0, .string s]).run P w = .ok (.slice none 0 0) w := by
        simp [Builtin.append_, run_underlying ht, run_underlying hu, sizeOf, typeInfo, hi, hsize, Builtin.lenOf, hm, hf]
      rw [this] at hrun
      injection hrun with h1 _
      exact .inl (by rw [← h1])
    · have := run_append_nil_string (P := P) w t u ty e inf (.int .u8 0) ht hu hi hz s (by omega) (by omega) (by rw [hby]; omega)
      rw [this] at hrun
      injection hrun with h1 _
      exact .inr (by rw [← h1]; rfl)
  · have hcs' : cur.size = cap := by simpa using hcs
    by_cases hroom : n + s.size ≤ cap
    · have := Lib.run_append_room_string (P := P) w t u ty e inf ht hu hi hsize g n cap cur hg s hroom (by omega)
      rw [this] at hrun
      injection hrun with h1 _
      exact .inl (by rw [← h1]; rfl)
    · have hxl : xs.length = n := by simpa using hown.1
      have holds : ∀ j u, xs[j]? = some u → w.cell? ((⟨g, 0, none⟩ : Addr).add j) = some u := hown.cells (g := g) rfl
      have := Lib.run_append_grow_string (P := P) w t u ty e inf (.int .u8 0) ht hu hi hz ⟨g, 0, none⟩ n cap xs (by rw [hsize]; simpa using hxl) holds s (by omega) (by omega) (by rw [hby]; exact growslice_fits (by omega) (by omega))
      rw [this] at hrun
      injection hrun with h1 _
      exact .inr (by rw [← h1]; rfl)

def growK (K : V → St → Option ρ) (σ : St) (e : TypeId) (ty : Ty) (old l1 : List ty.D) : V → Option ρ
  | .nils => K (.own σ.boxes.length) (σ.newBox (.row e ty l1))
  | .own b => K (.own σ.boxes.length) ((σ.setBox b .dead).newBox (.row e ty (old ++ l1)))
  | _ => none

/-- An append onto a row of the call's own, or onto nil. -/
theorem append_leaves [Base] (hR : Rel O F m σ a w) (hO : ∀ g, w.heap.size ≤ g → O g) {e : TypeId} {ty : Ty} {s : V} {cs : Value} {old l1 : List ty.D} {xs news : List Value} {v' : Value}
    (hs : (s = .nils ∧ old = []) ∨ ∃ b, s = .own b ∧ σ.boxes[b]? = some (.row e ty old) ∧ cs = m b) (hcs : s = .nils → cs = .slice none 0 0) (hx : Reps F w ty old xs)
    (hreps : Reps F w ty l1 news) (hown : w'.ownsRow 0 e ty.size v' (old.length + l1.length) (xs ++ news)) (hg : w.grownBy w' cs.ownBlock) (hat : v'.ownBlock = cs.ownBlock ∨ v'.ownBlock = some w.heap.size)
    (hK : growK K σ e ty old l1 s = some r) : Out O F w m σ.boxes K r a v' w' := by
  have hreps2 : Reps F w ty (old ++ l1) (xs ++ news) := by
    obtain ⟨c1, rfl, h1⟩ := hx
    obtain ⟨c2, rfl, h2⟩ := hreps
    exact ⟨c1 ++ c2, by simp, h1.append h2⟩
  have hlen : (old ++ l1).length = old.length + l1.length := by simp
  rcases hs with ⟨rfl, rfl⟩ | ⟨b, rfl, hb, rfl⟩
  · obtain rfl := hcs rfl
    have hno : ∀ g, g < w.heap.size → w'.heap[g]? = w.heap[g]? := fun g hlt => hg.block g hlt (by simp [Value.ownBlock])
    refine new_row hR hO hg.size hno hg.os hg.tape hg.output (xs := xs ++ news) (by simpa using hown) (by simpa using hreps2) ?_ hK
    intro g hgb
    rw [ownsRow_blk hown] at hgb
    rcases hat with hat | hat
    · rw [hat] at hgb; simp [Value.ownBlock] at hgb
    · rw [hat] at hgb; injection hgb with hgb; omega
  · have hrow := hR.boxes.box b _ hb
    obtain ⟨vs, hob, _, hnf⟩ := hrow
    have hbk := ownsRow_blk hob
    have hw : ∀ g, g < w.heap.size → blk (m b) ≠ some g → w'.heap[g]? = w.heap[g]? := fun g hlt hne => hg.block g hlt (by rw [← hbk]; exact fun e => hne e.symm)
    have hFo : ∀ g, F g → w'.heap[g]? = w.heap[g]? := fun g hf => hw g (hR.boxes.fz g hf) fun e => hnf g e hf
    have hat' : ∀ g, blk v' = some g → blk (m b) = some g ∨ w.heap.size ≤ g := by
      intro g hgb
      rw [ownsRow_blk hown] at hgb
      rcases hat with hat | hat
      · rw [hat, ← hbk] at hgb; exact .inl hgb
      · rw [hat] at hgb; injection hgb with hgb; exact .inr (by omega)
    refine .rel hK (hR.grow hb (hv := v') hg.size hw hat' hO ?_) ?_ ?_ (Later.grow hb hFo) fun _ h => .inl h
    · refine ⟨xs ++ news, ?_, hreps2.later (fun _ h => h) hFo, fun g hgb hf => ?_⟩
      · rw [upd_same, hlen]; exact hown
      · rw [upd_same] at hgb
        rcases hat' g hgb with h | h
        · exact hnf g h hf
        · have := hR.boxes.fz g hf; omega
    · exact ⟨by simp [St.newBox, St.setBox], (upd_same _ _ _).symm⟩
    · refine ⟨hg.os, hg.tape, hg.output, hg.size, fun g hlt ho => hg.block g hlt fun e => ho (hR.own g ⟨b, _, hb, rfl, ?_⟩)⟩
      rw [hbk]; exact e.symm

theorem step_append [Base] (hT : TTok P tt) (hR : Rel O F m σ a w) (hO : ∀ g, w.heap.size ≤ g → O g) {ts tx : TypeId} {s x : V} {cs cx : Value} {ty : TypeId} (hs : RV F w m σ.boxes s cs) (hx : RV F w m σ.boxes x cx) (h : appendC tt ts tx s x σ K = some r) :
    ∃ cv w', (Builtin.append_ #[ts, tx] ty #[cs, cx]).run P w = .ok cv w' ∧ Out O F w m σ.boxes K r a cv w' := by
  unfold appendC at h
  split at h
  case h_2 => cases h
  rename_i e hk
  obtain ⟨hu, h0⟩ := hT.slice hk
  simp only [Option.bind_eq_some_iff] at h
  obtain ⟨et, het, h⟩ := h
  replace h := chk_some h
  obtain ⟨hmay, h⟩ := h
  simp only [Option.bind_eq_some_iff] at h
  obtain ⟨l1, hl1, h⟩ := h
  obtain ⟨hsz, hby, inf, z, hi, hz, hall⟩ := hT.zero e et het
  obtain ⟨inf', hi', hs', hb'⟩ := hT.known e h0
  rw [hi] at hi'
  obtain rfl := Option.some.inj hi'
  have hzs : z.cells.size = et.size := by
    have := (hall F w m σ.boxes).length
    rw [zeros_len] at this
    simpa using this.symm
  -- what is appended to, and how it goes on
  have base : ∃ (old : List et.D) (xs : List Value), ((s = .nils ∧ old = []) ∨ ∃ b, s = .own b ∧ σ.boxes[b]? = some (.row e et old) ∧ cs = m b) ∧ (s = .nils → cs = .slice none 0 0) ∧ Reps F w et old xs ∧ w.ownsRow 0 e et.size cs old.length xs ∧
      lim (old.length + l1.length) (tt.at e).bytes = true ∧ growK K σ e et old l1 s = some r := by
    cases s with
    | nils =>
      replace h := chk_some h
      have hc : cs = .slice none 0 0 := hs
      exact ⟨[], [], .inl ⟨rfl, rfl⟩, fun _ => hc, ⟨[], rfl, .nil⟩, by rw [hc]; exact World.ownsRow_nil w 0 e et.size, by simpa using h.1, h.2⟩
    | own b =>
      obtain ⟨_, hcm⟩ := hs
      dsimp only at h
      split at h
      · rename_i e' t' l hbox
        split at h
        · rename_i hh
          obtain ⟨rfl, rfl⟩ := hh
          replace h := chk_some h
          have hget := getD_box hbox (by simp)
          obtain ⟨xs, hown, hreps, _⟩ := hR.boxes.box b _ hget
          exact ⟨l, xs, .inr ⟨b, rfl, hget, hcm⟩, (fun h => by cases h), hreps, by rw [hcm]; exact hown, h.1, h.2⟩
        · cases h
      · cases h
    | _ => cases h
  obtain ⟨old, xs, hbase, hnil, hreps0, hown, hlim, hK⟩ := base
  have hlim : (old.length + l1.length) * inf.bytes ≤ 140737488355328 := by rw [hb']; simpa [lim] using hlim
  have shown : ∀ {c : Value}, tx = ts → Shows F w et l1 c → ∃ cv w', (Builtin.append_ #[ts, tx] ty #[cs, c]).run P w = .ok cv w' ∧ Out O F w m σ.boxes K r a cv w' := by
    intro c htx hsh
    subst htx
    obtain ⟨v', w', news, hrun, hreps, hown', hg, hat⟩ := run_append_shown (P := P) (ty := ty) hu hi hz (by omega) hzs hown hsh hlim (by omega)
    exact ⟨v', w', hrun, append_leaves hR hO hbase hnil hreps0 hreps hown' hg hat hK⟩
  revert hl1 hmay
  cases x with
  | str b =>
    intro hmay hl1
    simp only [St.source] at hl1
    split at hl1
    · rename_i het'
      subst het'
      obtain rfl := Option.some.inj hl1
      simp only [mayAppend, Bool.and_eq_true] at hmay
      have hstr : P.underlying tx = some .string := by
        have h1 := hmay.1
        cases hkx : (tt.at tx).kind <;> rw [hkx] at h1 <;> first | (cases h1; done) | exact hT.str hkx
      obtain ⟨inf2, hi2, hz2, hs2, hb2⟩ := hT.byte e (by
        have h1 := hmay.2
        revert h1
        cases (tt.at e).kind with
        | int k => cases k <;> simp
        | _ => simp)
      rw [hi] at hi2
      obtain rfl := Option.some.inj hi2
      have hbl : (bytesOf b).length = b.size := by
        simp only [bytesOf, List.length_map, Array.length_toList]; rfl
      obtain rfl := RV.str_inv hx
      obtain ⟨v', w', hrun, hown', hg, hat⟩ := run_append_str (P := P) (ty := ty) hu hstr hi hz2 hs2 hb2 hown b (by rw [hbl, hb2] at hlim; omega)
      refine ⟨v', w', hrun, append_leaves (ty := .int .u8) (l1 := bytesOf b) (news := Lib.strCells b) hR hO hbase hnil hreps0 (by rw [strCells_ints]; exact reps_ints _) (by rw [hbl]; exact hown') hg hat hK⟩
    · cases hl1
  | own b =>
    intro hmay hl1
    exact shown (by simpa [mayAppend] using hmay) (slice_shows (e := e) (v := .own b) hR.boxes hl1 hx)
  | slc e2 t2 l2 =>
    intro hmay hl1
    exact shown (by simpa [mayAppend] using hmay) (slice_shows (e := e) (v := .slc e2 t2 l2) hR.boxes hl1 hx)
  | nils =>
    intro hmay hl1
    exact shown (by simpa [mayAppend] using hmay) (slice_shows (e := e) (v := .nils) hR.boxes hl1 hx)
  | _ => intro hmay hl1; simp [St.source, St.slice, asSlc] at hl1
end Go.Lin
end

/- Other numbers for the boxes; calls. -/
section
namespace Go.Lin

variable {F F' : Fz} {w w' : World} {m m' m1 m2 : Nat → Value} {bs bs' b1 b2 : List Box} {O : Nat → Prop} {σ : St} {a : Act} {P : Program} {tt : TT} {ρ : Type} {r : ρ} {K : V → St → Option ρ} {o : Oper}

/-- The boxes in S go by other numbers. -/
def Ren (S : Nat → Prop) (f : Nat → Nat) (m1 : Nat → Value) (b1 : List Box) (m2 : Nat → Value) (b2 : List Box) : Prop :=
  ∀ i, S i → i < b1.length → f i < b2.length ∧ m2 (f i) = m1 i ∧ b2.getD (f i) .dead = (b1.getD i .dead).ren f

theorem RL.ren {S : Nat → Prop} {f : Nat → Nat} (hf : Ren S f m1 b1 m2 b2) {v : V} {c : Value} (h : RL F w m1 b1 v c) (hS : ∀ i ∈ v.id1, S i) : RL F w m2 b2 (v.ren1 f) c := by
  cases v with
  | own b =>
    obtain ⟨hlt, rfl⟩ := h
    obtain ⟨h1, h2, _⟩ := hf b (hS b (by simp [V.id1])) hlt
    exact ⟨h1, h2.symm⟩
  | ptr b off =>
    obtain ⟨hlt, g, hm, rfl⟩ := h
    obtain ⟨h1, h2, _⟩ := hf b (hS b (by simp [V.id1])) hlt
    exact ⟨h1, g, h2.trans hm, rfl⟩
  | ep b i off =>
    obtain ⟨hlt, hi, hm⟩ := h
    obtain ⟨h1, h2, h3⟩ := hf b (hS b (by simp [V.id1])) hlt
    refine ⟨h1, hi, ?_⟩
    rw [h2, h3]
    revert hm
    generalize b1.getD b .dead = x
    cases x <;> exact fun h => h
  | _ => exact h

theorem mem_flatMap_id1 {v : V} {cs : List V} {i : Nat} (hv : v ∈ cs) (hi : i ∈ v.id1) : i ∈ cs.flatMap V.id1 := List.mem_flatMap.2 ⟨v, hv, hi⟩

theorem All2.ren {α β : Type} {R S : α → β → Prop} {f : α → α} {xs : List α} {ys : List β} (h : All2 R xs ys) (hf : ∀ x ∈ xs, ∀ y, R x y → S (f x) y) : All2 S (xs.map f) ys := by
  induction h with
  | nil => exact .nil
  | cons h _ ih => exact .cons (hf _ (by simp) _ h) (ih fun x hx => hf x (by simp [hx]))

def V.ids2 : V → List Nat
  | .agg cs => cs.flatMap V.id1
  | v => v.id1

theorem R2.ren [Base] {S : Nat → Prop} {f : Nat → Nat} (hf : Ren S f m1 b1 m2 b2) {v : V} {c : Value} (h : R2 F w m1 b1 v c) (hS : ∀ i ∈ v.ids2, S i) : R2 F w m2 b2 (v.ren2 f) c := by
  cases v with
  | agg cs =>
    obtain ⟨vs, rfl, hh⟩ := h
    exact ⟨vs, rfl, hh.ren fun x hx y hr => hr.ren hf fun i hi => hS i (mem_flatMap_id1 hx hi)⟩
  | fn g caps => exact h.elim
  | int k n => exact h
  | bool b => exact h
  | str s => exact h
  | slc e t l => exact h
  | nils => exact h
  | tup vs => exact h.elim
  | sp t x off => exact h
  | undef => exact h
  | junk => exact h
  | own b => exact RL.ren (F := F) (w := w) (v := .own b) hf h hS
  | ptr b off => exact RL.ren (F := F) (w := w) (v := .ptr b off) hf h hS
  | ep b i off => exact RL.ren (F := F) (w := w) (v := .ep b i off) hf h hS

theorem RV.ren [Base] {S : Nat → Prop} {f : Nat → Nat} (hf : Ren S f m1 b1 m2 b2) {v : V} {c : Value} (h : RV F w m1 b1 v c) (hS : ∀ i ∈ v.ids, S i) : RV F w m2 b2 (v.ren f) c := by
  cases v with
  | tup vs =>
    obtain ⟨cs, rfl, hh⟩ := h
    refine ⟨cs, rfl, hh.ren fun x hx y hr => hr.ren hf fun i hi => hS i ?_⟩
    refine List.mem_flatMap.2 ⟨x, hx, ?_⟩
    cases x <;> exact hi
  | fn g caps =>
    obtain ⟨cs, rfl, hh⟩ := h
    exact ⟨cs, rfl, hh.ren fun x hx y hr => hr.ren hf fun i hi => hS i (mem_flatMap_id1 hx hi)⟩
  | agg cs => exact R2.ren (v := .agg cs) hf h hS
  | int k n => exact h
  | bool b => exact h
  | str s => exact h
  | slc e t l => exact h
  | nils => exact h
  | sp t x off => exact h
  | undef => exact h
  | junk => exact h
  | own b => exact RL.ren (F := F) (w := w) (v := .own b) hf h hS
  | ptr b off => exact RL.ren (F := F) (w := w) (v := .ptr b off) hf h hS
  | ep b i off => exact RL.ren (F := F) (w := w) (v := .ep b i off) hf h hS

theorem RB.ren [Base] {S : Nat → Prop} {f : Nat → Nat} (hf : Ren S f m1 b1 m2 b2) {i : Nat} {x : Box} (h : RB F w m1 b1 i x) (hm : m2 (f i) = m1 i) (hS : ∀ j ∈ x.ids, S j) : RB F w m2 b2 (f i) (x.ren f) := by
  cases x with
  | cells t cs =>
    obtain ⟨g, arr, hm', hg, hall, hnf⟩ := h
    refine ⟨g, arr, hm.trans hm', hg, hall.ren fun v hv c hr => ?_, hnf⟩
    have key : ∀ j ∈ v.ids, S j := fun j hj => hS j (List.mem_flatMap.2 ⟨v, hv, hj⟩)
    cases v with
    | agg cs => exact hr.elim
    | tup cs => exact hr.elim
    | fn g caps => exact hr.elim
    | own b => exact RL.ren (v := .own b) hf hr key
    | ptr b off => exact RL.ren (v := .ptr b off) hf hr key
    | ep b i off => exact RL.ren (v := .ep b i off) hf hr key
    | _ => exact hr
  | row e t l =>
    show RB F w m2 b2 (f i) (.row e t l)
    obtain ⟨xs, ho, hr, hnf⟩ := h
    exact ⟨xs, by rw [hm]; exact ho, hr, by rw [hm]; exact hnf⟩
  | frow e t l =>
    show Rep F w (.slice e t) l [m2 (f i)]
    rw [hm]
    exact h
  | dead => exact trivial

theorem live_ren (x : Box) (f : Nat → Nat) : (x.ren f).live = x.live := by cases x <;> rfl

theorem okIds_parts {ids : List Nat} {vs : List V} (h : okIds ids vs bs = true) : ids.Nodup ∧ (∀ v ∈ vs, ∀ i ∈ v.ids, i ∈ ids) ∧ (∀ b ∈ ids, ∀ i ∈ (bs.getD b .dead).ids, i ∈ ids) ∧ ∀ b ∈ ids, b < bs.length := by
  simp only [okIds, Bool.and_eq_true, decide_eq_true_eq, List.all_eq_true, List.contains_iff_mem, List.mem_flatMap] at h
  obtain ⟨h1, h2, h3, h4⟩ := h
  exact ⟨h1, fun v hv i hi => h2 i ⟨v, hv, hi⟩, fun b hb i hi => h3 i ⟨b, hb, hi⟩, fun b hb => by have := h4 b hb; simpa [Nat.blt_eq] using this⟩

theorem idx_get {ids : List Nat} {b : Nat} (hb : b ∈ ids) : idx ids b < ids.length ∧ ids.getD (idx ids b) 0 = b := by
  have hlt : ids.idxOf b < ids.length := List.idxOf_lt_length_of_mem hb
  refine ⟨hlt, ?_⟩
  simp [idx, List.getD_eq_getElem?_getD, hlt]
theorem get_idx {ids : List Nat} (hn : ids.Nodup) {j : Nat} (hj : j < ids.length) : idx ids (ids[j]'hj) = j := by
  exact List.Nodup.idxOf_getElem hn j hj

/-- The boxes that are handed over. -/
def sub (ids : List Nat) (bs : List Box) : List Box := ids.map fun b => (bs.getD b .dead).ren (idx ids)
def msub (ids : List Nat) (m : Nat → Value) : Nat → Value := fun j => m (ids.getD j 0)

theorem sub_get {ids : List Nat} {j : Nat} (hj : j < ids.length) : (sub ids bs)[j]? = some ((bs.getD (ids[j]'hj) .dead).ren (idx ids)) := by simp [sub, hj]

theorem ren_sub [Base] {ids : List Nat} : Ren (· ∈ ids) (idx ids) m bs (msub ids m) (sub ids bs) := by
  intro i hi _
  obtain ⟨h1, h2⟩ := idx_get hi
  refine ⟨by simpa [sub] using h1, by simp only [msub]; rw [h2], ?_⟩
  rw [getD_of_get (sub_get h1)]
  have : ids[idx ids i]'h1 = i := by
    have := h2
    simpa [List.getD_eq_getElem?_getD, h1] using this
  rw [this]

theorem RBs.sub [Base] (h : RBs F w m bs) {ids : List Nat} {vs : List V} (hok : okIds ids vs bs = true) : RBs F w (msub ids m) (sub ids bs) := by
  obtain ⟨hn, _, hcl, hlt⟩ := okIds_parts hok
  have hren := ren_sub (m := m) (bs := bs) (ids := ids)
  have at_ : ∀ j x, (Go.Lin.sub ids bs)[j]? = some x → ∃ hj : j < ids.length, x = (bs.getD (ids[j]'hj) .dead).ren (idx ids) ∧ bs[ids[j]'hj]? = some (bs.getD (ids[j]'hj) .dead) ∧ msub ids m j = m (ids[j]'hj) := by
    intro j x hx
    have hj : j < ids.length := by have := get_lt hx; simpa [Go.Lin.sub] using this
    rw [sub_get hj] at hx
    have hb := hlt (ids[j]'hj) (List.getElem_mem hj)
    exact ⟨hj, (Option.some.inj hx).symm, by simp [List.getD_eq_getElem?_getD, hb], by simp [msub, List.getD_eq_getElem?_getD, hj]⟩
  refine ⟨fun j x hx => ?_, fun j j' x x' g hx hx' hl hl' hne hg hg' => ?_, h.fz, h.glob⟩
  · obtain ⟨hj, rfl, hget, hmj⟩ := at_ j x hx
    have := RB.ren hren (h.box _ _ hget) (by rw [get_idx hn hj, hmj]) (hcl _ (List.getElem_mem hj))
    rwa [get_idx hn hj] at this
  · obtain ⟨hj, rfl, hget, hmj⟩ := at_ j x hx
    obtain ⟨hj', rfl, hget', hmj'⟩ := at_ j' x' hx'
    rw [live_ren] at hl hl'
    rw [hmj] at hg
    rw [hmj'] at hg'
    exact h.apart _ _ _ _ g hget hget' hl hl' (fun e => hne (by rw [← get_idx hn hj, ← get_idx hn hj', e])) hg hg'

theorem Owned.sub [Base] {ids : List Nat} (hlt : ∀ b ∈ ids, b < bs.length) {g : Nat} (h : Owned (msub ids m) (sub ids bs) g) : ∃ b ∈ ids, ∃ x, bs[b]? = some x ∧ x.live = true ∧ blk (m b) = some g := by
  obtain ⟨j, x, hx, hl, hg⟩ := h
  have hj : j < ids.length := by have := get_lt hx; simpa [Go.Lin.sub] using this
  rw [sub_get hj] at hx
  obtain rfl := Option.some.inj hx
  rw [live_ren] at hl
  have hb := hlt (ids[j]'hj) (List.getElem_mem hj)
  exact ⟨ids[j]'hj, List.getElem_mem hj, bs.getD (ids[j]'hj) .dead, by simp [List.getD_eq_getElem?_getD, hb], hl, by simpa [msub, List.getD_eq_getElem?_getD, hj] using hg⟩

/-! ### behind a call -/
theorem setAll_len : ∀ (ids : List Nat) (xs bs : List Box), (setAll bs ids xs).length = bs.length
  | [], _, _ => by simp [setAll]
  | i :: ids, [], bs => by simp [setAll]
  | i :: ids, x :: xs, bs => by simp [setAll, setAll_len ids xs]
theorem setAll_out : ∀ {ids : List Nat} {xs bs : List Box} {i : Nat}, i ∉ ids → (setAll bs ids xs)[i]? = bs[i]?
  | [], _, _, _, _ => by simp [setAll]
  | j :: ids, [], bs, i, _ => by simp [setAll]
  | j :: ids, x :: xs, bs, i, h => by
    simp only [List.mem_cons, not_or] at h
    rw [setAll, setAll_out h.2, List.getElem?_set_ne (Ne.symm h.1)]
theorem setAll_in [Base] : ∀ {ids : List Nat} {xs bs : List Box} {j i : Nat} {x : Box}, ids.Nodup → (∀ b ∈ ids, b < bs.length) → ids[j]? = some i → xs[j]? = some x → (setAll bs ids xs)[i]? = some x
  | [], _, _, _, _, _, _, _, h, _ => by simp at h
  | k :: ids, [], bs, j, i, x, _, _, _, h => by simp at h
  | k :: ids, y :: xs, bs, 0, i, x, hn, hlt, h1, h2 => by
    simp at h1 h2
    subst h1 h2
    rw [List.nodup_cons] at hn
    rw [setAll, setAll_out hn.1, List.getElem?_set_self (hlt _ (by simp))]
  | k :: ids, y :: xs, bs, j + 1, i, x, hn, hlt, h1, h2 => by
    rw [List.nodup_cons] at hn
    rw [setAll]
    exact setAll_in (j := j) hn.2 (fun b hb => by rw [List.length_set]; exact hlt b (by simp [hb])) (by simpa using h1) (by simpa using h2)

def Own0 (m : Nat → Value) (bs : List Box) (w : World) (g : Nat) : Prop := Owned m bs g ∨ w.heap.size ≤ g

/-- What is so behind a call that the oracle speaks of. -/
def Post [Base] (F : Fz) (w : World) (m : Nat → Value) (bxs : List Box) (K : V → List Box → Option ρ) (r : ρ) (e : Ending) (w' : World) : Prop :=
  ∃ res bxs' F' m' cv, e = .returned cv ∧ K res bxs' = some r ∧ RV F' w' m' bxs' res cv ∧ RBs F' w' m' bxs' ∧ Later F F' w w' m m' bxs bxs' ∧ (∀ g, F' g → F g ∨ Own0 m bxs w g) ∧
    (∀ g, Owned m' bxs' g → Own0 m bxs w g) ∧ Keep (Own0 m bxs w) w w'

/-- The oracle tells what the function does. -/
def Real [Base] (P : Program) (g : FuncId) (C : Orc ρ) : Prop :=
  ∀ args bxs K r, C args bxs K = some r → ∀ F w m (cargs : Array Value), All2 (RV F w m bxs) args cargs.toList → RBs F w m bxs → Calls P g cargs w (Post F w m bxs K r)

theorem le_ren {x y : Box} {f g : Nat → Nat} (h : Box.le (x.ren f) y) : Box.le x (y.ren g) := by
  cases x <;> cases y <;> exact h

theorem Keep.mono {O O' : Nat → Prop} (h : Keep O w w') (ho : ∀ g, O g → O' g) : Keep O' w w' :=
  ⟨h.os, h.tape, h.output, h.size, fun g hg hn => h.block g hg fun h => hn (ho g h)⟩

theorem callX_sound [Base] {C : Orc ρ} {g : FuncId} (hC : Real P g C) {args : List V} {cargs : Array Value} (hR : Rel O F m σ a w) (hO : ∀ g, w.heap.size ≤ g → O g) (hargs : All2 (RV F w m σ.boxes) args cargs.toList)
    (h : callX C args σ K = some r) : Calls P g cargs w fun e w' => ∃ cv, e = .returned cv ∧ Out O F w m σ.boxes K r a cv w' := by
  unfold callX at h
  replace h := chk_some h
  obtain ⟨hok, h⟩ := h
  generalize hids : reach σ.boxes (idsOf [] args) = ids at h hok
  obtain ⟨hn, hav, hcl, hlt⟩ := okIds_parts hok
  have hrs := ren_sub (m := m) (bs := σ.boxes) (ids := ids)
  have hargs' : All2 (RV F w (msub ids m) (sub ids σ.boxes)) (args.map (V.ren (idx ids))) cargs.toList := hargs.ren fun v hv c hr => hr.ren hrs (hav v hv)
  have hsub := hR.boxes.sub hok
  refine (hC _ _ _ _ h F w (msub ids m) cargs hargs' hsub).mono ?_
  rintro e w' ⟨res, bxs', F', m', cv, rfl, hK, hres, hbs, hL, hF', hown, hkeep⟩
  refine ⟨cv, rfl, ?_⟩
  replace hL : Later F F' w w' (msub ids m) m' (sub ids σ.boxes) bxs' := hL
  replace hF' : ∀ g, F' g → F g ∨ Own0 (msub ids m) (sub ids σ.boxes) w g := hF'
  replace hown : ∀ g, Owned m' bxs' g → Own0 (msub ids m) (sub ids σ.boxes) w g := hown
  replace hkeep : Keep (Own0 (msub ids m) (sub ids σ.boxes) w) w w' := hkeep
  have hsl : (sub ids σ.boxes).length = ids.length := by simp [sub]
  have hlen : ids.length ≤ bxs'.length := by rw [← hsl]; exact hL.len
  generalize hn0 : σ.boxes.length = n at *
  let f := back ids n
  let bs2 := bxs'.map (Box.ren f)
  let BS := setAll σ.boxes ids bs2 ++ bs2.drop ids.length
  let M : Nat → Value := fun i => if i < n then m i else m' (ids.length + (i - n))
  have hBSl : BS.length = n + (bxs'.length - ids.length) := by simp [BS, bs2, setAll_len, hn0]
  have hf1 : ∀ j (hj : j < ids.length), f j = ids[j] := by
    intro j hj
    have : Nat.blt j ids.length = true := by simpa [Nat.blt_eq] using hj
    simp [f, back, this, List.getD_eq_getElem?_getD, hj]
  have hf2 : ∀ j, ids.length ≤ j → f j = n + (j - ids.length) := by
    intro j hj
    have : Nat.blt j ids.length = false := by
      cases hb : Nat.blt j ids.length
      · rfl
      · rw [Nat.blt_eq] at hb; omega
    simp [f, back, this]
  -- where each box comes from
  have hget : ∀ j y, bxs'[j]? = some y → BS[f j]? = some (y.ren f) := by
    intro j y hy
    by_cases hj : j < ids.length
    · rw [hf1 j hj]
      have hb := hlt _ (List.getElem_mem hj)
      rw [List.getElem?_append_left (by rw [setAll_len, hn0]; exact hb)]
      exact setAll_in (j := j) hn (fun b hb => by rw [hn0]; exact hlt b hb) (List.getElem?_eq_getElem hj) (by simp [bs2, hy])
    · rw [hf2 j (by omega), List.getElem?_append_right (by rw [setAll_len, hn0]; omega), setAll_len, hn0, List.getElem?_drop]
      have : ids.length + (n + (j - ids.length) - n) = j := by omega
      rw [this]
      simp [bs2, hy]
  have hold : ∀ i, i < n → i ∉ ids → BS[i]? = σ.boxes[i]? := by
    intro i hi hni
    rw [List.getElem?_append_left (by rw [setAll_len, hn0]; exact hi)]
    exact setAll_out hni
  have hcase : ∀ i x, BS[i]? = some x → (∃ j y, bxs'[j]? = some y ∧ i = f j ∧ x = y.ren f) ∨ (i < n ∧ i ∉ ids ∧ σ.boxes[i]? = some x) := by
    intro i x hx
    have hi := get_lt hx
    rw [hBSl] at hi
    by_cases hin : i < n
    · by_cases hm : i ∈ ids
      · obtain ⟨j, hj, rfl⟩ := List.mem_iff_getElem.1 hm
        have hjb : j < bxs'.length := by omega
        have := hget j _ (List.getElem?_eq_getElem hjb)
        rw [hf1 j hj, hx] at this
        exact .inl ⟨j, _, List.getElem?_eq_getElem hjb, (hf1 j hj).symm, Option.some.inj this⟩
      · exact .inr ⟨hin, hm, by rw [← hold i hin hm]; exact hx⟩
    · have hjb : ids.length + (i - n) < bxs'.length := by omega
      have hfj : f (ids.length + (i - n)) = i := by rw [hf2 _ (by omega)]; omega
      have := hget _ _ (List.getElem?_eq_getElem hjb)
      rw [hfj, hx] at this
      exact .inl ⟨_, _, List.getElem?_eq_getElem hjb, hfj.symm, Option.some.inj this⟩
  have hM : ∀ j, j < bxs'.length → M (f j) = m' j := by
    intro j hj
    by_cases hjl : j < ids.length
    · rw [hf1 j hjl]
      have hb := hlt _ (List.getElem_mem hjl)
      simp only [M, hb, if_pos]
      rw [hL.hd j (by rw [hsl]; exact hjl)]
      simp [msub, List.getD_eq_getElem?_getD, hjl]
    · rw [hf2 j (by omega)]
      have h1 : ¬ (n + (j - ids.length) < n) := by omega
      simp only [M, h1, if_neg, not_false_eq_true]
      congr 1
      omega
  have hfl : ∀ j, j < bxs'.length → f j < BS.length := by
    intro j hj
    by_cases hjl : j < ids.length
    · rw [hf1 j hjl, hBSl]
      have := hlt _ (List.getElem_mem hjl)
      omega
    · rw [hf2 j (by omega), hBSl]; omega
  have hren : Ren (fun _ => True) f m' bxs' M BS := by
    intro j _ hj
    refine ⟨hfl j hj, hM j hj, ?_⟩
    rw [getD_of_get (hget j _ (List.getElem?_eq_getElem hj)), getD_of_get (List.getElem?_eq_getElem hj)]
  have hsubO : ∀ g, Own0 (msub ids m) (sub ids σ.boxes) w g → O g := by
    rintro g (hg | hg)
    · obtain ⟨b, _, x, hx, hl, hb⟩ := Owned.sub (by rw [hn0]; exact hlt) hg
      exact hR.own g ⟨b, x, hx, hl, hb⟩
    · exact hO g hg
  -- boxes that were not handed over
  have hapart : ∀ i x g, i ∉ ids → σ.boxes[i]? = some x → x.live = true → blk (m i) = some g → ¬ Own0 (msub ids m) (sub ids σ.boxes) w g := by
    rintro i x g hni hx hl hg (ho | ho)
    · obtain ⟨b, hb, y, hy, hly, hby⟩ := Owned.sub (by rw [hn0]; exact hlt) ho
      exact hR.boxes.apart i b x y g hx hy hl hly (fun e => hni (e ▸ hb)) hg hby
    · have := (hR.boxes.box i x hx).lt hl hg
      omega
  have hLater : Later F F' w w' m M σ.boxes BS := by
    refine ⟨hL.fz, hL.blk, by rw [hBSl, hn0]; omega, fun b hb => ?_, fun b hb => by rw [hn0] at hb; simp [M, hb]⟩
    rw [hn0] at hb
    by_cases hm : b ∈ ids
    · obtain ⟨j, hj, rfl⟩ := List.mem_iff_getElem.1 hm
      have hjb : j < bxs'.length := by omega
      have h1 := hL.le j (by rw [hsl]; exact hj)
      rw [getD_of_get (sub_get hj), getD_of_get (List.getElem?_eq_getElem hjb)] at h1
      have h2 := hget j _ (List.getElem?_eq_getElem hjb)
      rw [hf1 j hj] at h2
      rw [getD_of_get h2]
      exact le_ren h1
    · have : BS.getD b .dead = σ.boxes.getD b .dead := by rw [List.getD_eq_getElem?_getD, hold b hb hm, ← List.getD_eq_getElem?_getD]
      rw [this]
      exact Box.le_refl _
  have hRBs : RBs F' w' M BS := by
    refine ⟨fun i x hx => ?_, fun i i' x x' g hx hx' hl hl' hne hg hg' => ?_, hbs.fz, hbs.glob⟩
    · rcases hcase i x hx with ⟨j, y, hy, rfl, rfl⟩ | ⟨hi, hni, hx⟩
      · exact RB.ren hren (hbs.box j y hy) (hM j (get_lt hy)) fun _ _ => trivial
      · refine (hR.boxes.box i x hx).later hLater (by rw [hn0]; exact hi) fun hl g hg => ?_
        have hno := hapart i x g hni hx hl hg
        have hlt' := (hR.boxes.box i x hx).lt hl hg
        refine ⟨hkeep.block g hlt' hno, fun hf => ?_⟩
        rcases hF' g hf with hf | hf
        · exact (hR.boxes.box i x hx).notF hl hg hf
        · exact hno hf
    · rcases hcase i x hx with ⟨j, y, hy, rfl, rfl⟩ | ⟨hi, hni, hx⟩ <;> rcases hcase i' x' hx' with ⟨j', y', hy', rfl, rfl⟩ | ⟨hi', hni', hx'⟩
      · rw [live_ren] at hl hl'
        rw [hM j (get_lt hy)] at hg
        rw [hM j' (get_lt hy')] at hg'
        exact hbs.apart j j' y y' g hy hy' hl hl' (fun e => hne (by rw [e])) hg hg'
      · rw [live_ren] at hl
        rw [hM j (get_lt hy)] at hg
        have h1 := hown g ⟨j, y, hy, hl, hg⟩
        have : M i' = m i' := by simp [M, hi']
        rw [this] at hg'
        exact hapart i' x' g hni' hx' hl' hg' h1
      · rw [live_ren] at hl'
        rw [hM j' (get_lt hy')] at hg'
        have h1 := hown g ⟨j', y', hy', hl', hg'⟩
        have : M i = m i := by simp [M, hi]
        rw [this] at hg
        exact hapart i x g hni hx hl hg h1
      · have e1 : M i = m i := by simp [M, hi]
        have e2 : M i' = m i' := by simp [M, hi']
        rw [e1] at hg
        rw [e2] at hg'
        exact hR.boxes.apart i i' x x' g hx hx' hl hl' hne hg hg'
  refine ⟨res.ren f, ⟨σ.slots, BS⟩, F', M, hK, ⟨hR.slots.mono fun _ _ hv => hv.later hLater, hRBs, ?_, hR.defers⟩, hres.ren hren fun _ _ => trivial, hkeep.mono hsubO, hLater, fun g hg => ?_⟩
  · rintro g ⟨i, x, hx, hl, hg⟩
    rcases hcase i x hx with ⟨j, y, hy, rfl, rfl⟩ | ⟨hi, hni, hx⟩
    · rw [live_ren] at hl
      rw [hM j (get_lt hy)] at hg
      exact hsubO g (hown g ⟨j, y, hy, hl, hg⟩)
    · have e1 : M i = m i := by simp [M, hi]
      rw [e1] at hg
      exact hR.own g ⟨i, x, hx, hl, hg⟩
  · rcases hF' g hg with hf | hf
    · exact .inl hf
    · exact .inr (hsubO g hf)
end Go.Lin
end

/- Values and boxes brought into one form. -/
section
namespace Go.Lin

variable {F F' F0 : Fz} {w w' w0 : World} {m m' m0 : Nat → Value} {bs bs' bs0 : List Box} {O : Nat → Prop} {σ : St} {a : Act} {P : Program} {tt : TT} {ρ D : Type} {r : ρ} {R : Ending → World → Prop}

theorem All2.one {α β : Type} {R : α → β → Prop} {x : α} {ys : List β} (h : All2 R [x] ys) : ∃ y, ys = [y] ∧ R x y := by
  cases h with
  | cons h t => cases t; exact ⟨_, rfl, h⟩

structure Normed [Base] (O : Nat → Prop) (F F' : Fz) (m m' : Nat → Value) (σ : St) (bs' : List Box) (a : Act) (w : World) : Prop where
  rel : Rel O F' m' ⟨σ.slots, bs'⟩ a w
  fz' : ∀ g, F' g → F g ∨ O g
  later : Later F F' w w m m' σ.boxes bs'
theorem Normed.refl [Base] (h : Rel O F m σ a w) : Normed O F F m m σ σ.boxes a w := ⟨h, fun _ h => .inl h, .refl⟩
theorem Froze.normed [Base] (h : Froze O F F' m σ bs' a w) : Normed O F F' m m σ bs' a w := ⟨h.rel, h.fz', h.later⟩
theorem Normed.trans [Base] {F1 F2 : Fz} {m1 m2 : Nat → Value} {b1 b2 : List Box} (h : Normed O F F1 m m1 σ b1 a w) (k : Normed O F1 F2 m1 m2 ⟨σ.slots, b1⟩ b2 a w) : Normed O F F2 m m2 σ b2 a w :=
  ⟨k.rel, fun g hg => by
    rcases k.fz' g hg with hg | hg
    · exact h.fz' g hg
    · exact .inr hg, h.later.trans k.later⟩

theorem RL.toV {v : V} {c : Value} (h : RL F w m bs v c) : RV F w m bs v c := by
  cases v <;> first | exact h | exact h.elim | exact trivial
theorem RV.toL {v : V} {c : Value} (h : RV F w m bs v c) (ho : v.one = true) : RL F w m bs v c := by
  cases v <;> first | exact h | cases ho

theorem normL_sound [Base] (hR : Rel O F m σ a w) (hO : ∀ g, w.heap.size ≤ g → O g) {md : Md} {v v' : V} {c : Value} (hv : RV F w m σ.boxes v c) (h : normL σ.boxes md v = some (v', bs')) :
    ∃ F' m', Normed O F F' m m' σ bs' a w ∧ RV F' w m' bs' v' c := by
  cases md with
  | keep =>
    simp only [normL, Option.some.injEq, Prod.mk.injEq] at h
    obtain ⟨rfl, rfl⟩ := h
    exact ⟨F, m, .refl hR, hv⟩
  | dat t =>
    simp only [normL, cond_eq_ite] at h
    split at h
    case isFalse => cases h
    rename_i hs
    have hrl : RL F w m σ.boxes v c := by
      cases v <;> first | exact hv | (simp [frz, V.solid] at hs; done)
    obtain ⟨F', hf, hr⟩ := frz_sound hR hrl
    simp only [Option.bind_eq_some_iff] at h
    obtain ⟨x, hx, h⟩ := h
    have hrep := pack1_sound hx (.cons hr .nil)
    have hun := RL_unpack (m := m) (bs := (frz σ.boxes v).2) hrep
    split at h
    · rename_i u hu
      simp only [Option.some.injEq, Prod.mk.injEq] at h
      obtain ⟨rfl, rfl⟩ := h
      rw [hu] at hun
      obtain ⟨y, hy, hr'⟩ := hun.one
      obtain rfl : c = y := by simpa using hy
      exact ⟨F', m, hf.normed, hr'.toV⟩
    · cases h
  | own e t =>
    cases v with
    | nils =>
      simp only [normL, Option.some.injEq, Prod.mk.injEq] at h
      obtain ⟨rfl, rfl⟩ := h
      have hv : c = .slice none 0 0 := hv
      subst hv
      have hnew := hR.new (w' := w) (hv := .slice none 0 0) (x := .row e t []) (Nat.le_refl _) (fun _ _ => rfl)
        ⟨[], by rw [upd_same]; exact ⟨by simp, .inl ⟨rfl, rfl⟩⟩, ⟨[], rfl, .nil⟩, fun g hg => by rw [upd_same] at hg; simp [blk] at hg⟩ (fun _ g hg => by simp [blk] at hg) hO
      exact ⟨F, _, ⟨hnew, fun _ h => .inl h, Later.new fun _ _ => rfl⟩, ⟨by simp, (upd_same _ _ _).symm⟩⟩
    | own b =>
      simp only [normL, Option.some.injEq, Prod.mk.injEq] at h
      obtain ⟨rfl, rfl⟩ := h
      exact ⟨F, m, .refl hR, hv⟩
    | _ => simp [normL] at h
  | rec_ t => simp [normL] at h
  | agg_ l => simp [normL] at h

theorem normL_one {md : Md} {v v' : V} (hv : v.one = true) (h : normL bs md v = some (v', bs')) : v'.one = true := by
  cases md with
  | keep =>
    simp only [normL, Option.some.injEq, Prod.mk.injEq] at h
    obtain ⟨rfl, rfl⟩ := h
    exact hv
  | dat t =>
    simp only [normL, cond_eq_ite] at h
    split at h
    case isFalse => cases h
    simp only [Option.bind_eq_some_iff] at h
    obtain ⟨x, hx, h⟩ := h
    split at h
    · rename_i u hu
      simp only [Option.some.injEq, Prod.mk.injEq] at h
      obtain ⟨rfl, rfl⟩ := h
      have key : ∀ (t : Ty) (x : t.D), ∀ v ∈ unpack t x, v.one = true := by
        intro t
        induction t with
        | pair a b iha ihb =>
          intro x v hv
          simp only [unpack, List.mem_append] at hv
          rcases hv with hv | hv
          · exact iha _ _ hv
          · exact ihb _ _ hv
        | gval s v =>
          intro x v hv
          simp only [unpack, List.mem_cons, List.not_mem_nil, or_false] at hv
          rcases hv with rfl | rfl | rfl | rfl | rfl <;> rfl
        | _ =>
          intro x v hv
          simp only [unpack, List.mem_cons, List.not_mem_nil, or_false] at hv
          subst hv
          rfl
      exact key t x u (by rw [hu]; simp)
    · cases h
  | own e t =>
    cases v with
    | nils =>
      simp only [normL, Option.some.injEq, Prod.mk.injEq] at h
      obtain ⟨rfl, rfl⟩ := h
      rfl
    | own b =>
      simp only [normL, Option.some.injEq, Prod.mk.injEq] at h
      obtain ⟨rfl, rfl⟩ := h
      rfl
    | _ => simp [normL] at h
  | rec_ t => simp [normL] at h
  | agg_ l => simp [normL] at h

theorem RL.one {v : V} {c : Value} (h : RL F w m bs v c) : v.one = true := by
  cases v <;> first | rfl | exact h.elim

theorem normLs_sound [Base] {mds : List Md} {vs vs' : List V} {cs : List Value} (hR : Rel O F m σ a w) (hO : ∀ g, w.heap.size ≤ g → O g) (hv : All2 (RL F w m σ.boxes) vs cs) (h : normLs σ.boxes mds vs = some (vs', bs')) :
    ∃ F' m', Normed O F F' m m' σ bs' a w ∧ All2 (RL F' w m' bs') vs' cs := by
  induction mds generalizing F m σ vs vs' cs with
  | nil =>
    cases vs with
    | nil =>
      simp only [normLs, Option.some.injEq, Prod.mk.injEq] at h
      obtain ⟨rfl, rfl⟩ := h
      cases hv
      exact ⟨F, m, .refl hR, .nil⟩
    | cons v vs => simp [normLs] at h
  | cons md mds ih =>
    cases vs with
    | nil => simp [normLs] at h
    | cons v vs =>
      simp only [normLs, Option.bind_eq_some_iff, Option.some.injEq, Prod.mk.injEq] at h
      obtain ⟨⟨v1, b1⟩, h1, ⟨vs1, b2⟩, h2, rfl, rfl⟩ := h
      cases hv with
      | cons hv1 hv2 =>
        obtain ⟨F1, m1, hn1, hr1⟩ := normL_sound hR hO hv1.toV h1
        obtain ⟨F2, m2, hn2, hr2⟩ := ih (σ := ⟨σ.slots, b1⟩) hn1.rel (hv2.mono fun _ _ hx => hx.later hn1.later) h2
        exact ⟨F2, m2, hn1.trans hn2, .cons ((hr1.toL (normL_one hv1.one h1)).later hn2.later) hr2⟩

theorem normV_sound [Base] (hR : Rel O F m σ a w) (hO : ∀ g, w.heap.size ≤ g → O g) {md : Md} {v v' : V} {c : Value} (hv : RV F w m σ.boxes v c) (h : normV σ.boxes md v = some (v', bs')) :
    ∃ F' m', Normed O F F' m m' σ bs' a w ∧ RV F' w m' bs' v' c := by
  unfold normV at h
  split at h
  · obtain ⟨vs, rfl, hh⟩ := hv
    rename_i t cs
    obtain ⟨F', hf, hr⟩ := frzs_sound hR hh
    simp only [Option.bind_eq_some_iff, Option.some.injEq, Prod.mk.injEq] at h
    obtain ⟨x, hx, rfl, rfl⟩ := h
    have hrep := pack1_sound hx hr
    exact ⟨F', m, hf.normed, vs, rfl, RL_unpack hrep⟩
  · obtain ⟨vs, rfl, hh⟩ := hv
    simp only [Option.bind_eq_some_iff, Option.some.injEq, Prod.mk.injEq] at h
    obtain ⟨⟨cs', b1⟩, h1, rfl, rfl⟩ := h
    obtain ⟨F', m', hn, hr⟩ := normLs_sound hR hO hh h1
    exact ⟨F', m', hn, vs, rfl, hr⟩
  · exact normL_sound hR hO hv h

theorem norms_sound [Base] {mds : List Md} {vs vs' : List V} {cs : List Value} (hR : Rel O F m σ a w) (hO : ∀ g, w.heap.size ≤ g → O g) (hv : All2 (RV F w m σ.boxes) vs cs) (h : norms σ.boxes mds vs = some (vs', bs')) :
    ∃ F' m', Normed O F F' m m' σ bs' a w ∧ All2 (RV F' w m' bs') vs' cs := by
  induction mds generalizing F m σ vs vs' cs with
  | nil =>
    cases vs with
    | nil =>
      simp only [norms, Option.some.injEq, Prod.mk.injEq] at h
      obtain ⟨rfl, rfl⟩ := h
      cases hv
      exact ⟨F, m, .refl hR, .nil⟩
    | cons v vs => simp [norms] at h
  | cons md mds ih =>
    cases vs with
    | nil => simp [norms] at h
    | cons v vs =>
      simp only [norms, Option.bind_eq_some_iff, Option.some.injEq, Prod.mk.injEq] at h
      obtain ⟨⟨v1, b1⟩, h1, ⟨vs1, b2⟩, h2, rfl, rfl⟩ := h
      cases hv with
      | cons hv1 hv2 =>
        obtain ⟨F1, m1, hn1, hr1⟩ := normV_sound hR hO hv1 h1
        obtain ⟨F2, m2, hn2, hr2⟩ := ih (σ := ⟨σ.slots, b1⟩) hn1.rel (hv2.mono fun _ _ hx => hx.later hn1.later) h2
        exact ⟨F2, m2, hn1.trans hn2, .cons (hr1.later hn2.later) hr2⟩

/-! ### the cells of boxes -/
theorem RBs.arr [Base] (h : RBs F w m bs) {b : Nat} {t : TypeId} {cs : List V} (hb : bs.getD b .dead = .cells t cs) :
    ∃ g arr, bs[b]? = some (.cells t cs) ∧ m b = .pointer (some ⟨g, 0, none⟩) ∧ w.heap[g]? = some (.cells arr t (0, 0)) ∧ All2 (RL F w m bs) cs arr.toList ∧ ¬ F g := by
  have hb' := get_of_getD hb (by simp)
  obtain ⟨g, arr, h1, h2, h3, h4⟩ := h.box b _ hb'
  exact ⟨g, arr, hb', h1, h2, h3, h4⟩

/-- The cells of a box in another form. -/
theorem Rel.turn [Base] (h : Rel O F m σ a w) {b : Nat} {t : TypeId} {cs cs' : List V} {g : Nat} {arr : Array Value} (hb : σ.boxes[b]? = some (.cells t cs)) (hm : m b = .pointer (some ⟨g, 0, none⟩))
    (hg : w.heap[g]? = some (.cells arr t (0, 0))) (hnf : ¬ F g) (hr : All2 (RL F w m σ.boxes) cs' arr.toList) : Normed O F F m m σ (σ.boxes.set b (.cells t cs')) a w := by
  have L : Later F F w w m m σ.boxes (σ.boxes.set b (.cells t cs')) := Later.set hb rfl (fun _ _ => rfl) fun _ h => h
  refine ⟨?_, fun _ h => .inl h, L⟩
  exact h.set (x' := .cells t cs') hb rfl rfl (Nat.le_refl _) (fun _ h => h) (fun _ h => .inl h) (fun _ _ _ => rfl) ⟨g, arr, hm, hg, hr.mono fun _ _ hx => hx.later L, hnf⟩

theorem fixBox_sound [Base] (hR : Rel O F m σ a w) {b : Nat} {t : Ty} (h : fixBox σ.boxes b t = some bs') : ∃ F' m', Normed O F F' m m' σ bs' a w := by
  unfold fixBox at h
  split at h
  · rename_i tid cs hb
    obtain ⟨g, arr, hb1, hm1, hg1, hr1, _⟩ := hR.boxes.arr hb
    obtain ⟨F', hf, hr⟩ := frzs_sound hR hr1
    simp only [Option.bind_eq_some_iff] at h
    obtain ⟨x, hx, h⟩ := h
    split at h
    · rename_i tid' cs2 hb2
      rw [cond_eq_ite] at h
      split at h
      case isFalse => cases h
      rename_i he
      obtain rfl : tid' = tid := by simpa using he
      obtain rfl := Option.some.inj h
      obtain ⟨g2, arr2, hb3, hm3, hg3, hr3, hn3⟩ := hf.rel.boxes.arr hb2
      rw [hm1] at hm3
      injection hm3 with hm3
      injection hm3 with hm3
      injection hm3 with hm3
      subst hm3
      rw [hg1] at hg3
      injection hg3 with hg3
      injection hg3 with hg3
      subst hg3
      have := hf.rel.turn (cs' := unpack t x) hb3 hm1 hg1 hn3 (RL_unpack (pack1_sound hx hr))
      exact ⟨F', m, hf.normed.trans this⟩
    · cases h
  · cases h

theorem All2.set' [Base] {α β : Type} {R : α → β → Prop} {xs : List α} {ys : List β} (h : All2 R xs ys) {i : Nat} {x : α} {y : β} (hy : ys[i]? = some y) (hr : R x y) : All2 R (xs.set i x) ys := by
  have := h.set i hr
  have e : ys.set i y = ys := by
    obtain ⟨hl, rfl⟩ := List.getElem?_eq_some_iff.1 hy
    exact List.set_getElem_self hl
  rwa [e] at this

theorem fixCell_sound [Base] (hR : Rel O F m σ a w) (hO : ∀ g, w.heap.size ≤ g → O g) {b j : Nat} {md : Md} (h : fixCell σ.boxes b j md = some bs') : ∃ F' m', Normed O F F' m m' σ bs' a w := by
  unfold fixCell at h
  split at h
  · rename_i tid cs hb
    obtain ⟨g, arr, hb1, hm1, hg1, hr1, _⟩ := hR.boxes.arr hb
    split at h
    · rename_i v hj
      obtain ⟨c, hc, hv⟩ := hr1.get j v hj
      simp only [Option.bind_eq_some_iff] at h
      obtain ⟨⟨v', b1⟩, hn, h⟩ := h
      obtain ⟨F', m', hnm, hv'⟩ := normL_sound hR hO hv.toV hn
      rw [cond_eq_ite] at h
      split at h
      case isFalse => cases h
      rename_i h1
      split at h
      · rename_i tid' cs2 hb2
        obtain rfl := Option.some.inj h
        obtain ⟨g2, arr2, hb3, hm3, hg3, hr3, hn3⟩ := hnm.rel.boxes.arr hb2
        have hlt : b < σ.boxes.length := get_lt hb1
        rw [hnm.later.hd b hlt, hm1] at hm3
        injection hm3 with hm3
        injection hm3 with hm3
        injection hm3 with hm3
        subst hm3
        rw [hg1] at hg3
        injection hg3 with hg3
        injection hg3 with hg3 hg4
        subst hg3
        subst hg4
        have := hnm.rel.turn (cs' := cs2.set j v') hb3 ((hnm.later.hd b hlt).trans hm1) hg1 hn3 (hr3.set' hc (hv'.toL h1))
        exact ⟨F', m', hnm.trans this⟩
      · cases h
    · cases h
  · cases h

theorem fixCells_sound [Base] {l : List (Nat × Nat × Md)} {sl : List V} (hR : Rel O F m σ a w) (hO : ∀ g, w.heap.size ≤ g → O g) (h : fixCells sl σ.boxes l = some bs') : ∃ F' m', Normed O F F' m m' σ bs' a w := by
  induction l generalizing F m σ with
  | nil =>
    obtain rfl := Option.some.inj h
    exact ⟨F, m, .refl hR⟩
  | cons p l ih =>
    obtain ⟨i, j, md⟩ := p
    simp only [fixCells] at h
    split at h
    · rename_i b _
      simp only [Option.bind_eq_some_iff] at h
      obtain ⟨b1, h1, h2⟩ := h
      obtain ⟨F1, m1, hn1⟩ := fixCell_sound hR hO h1
      obtain ⟨F2, m2, hn2⟩ := ih (σ := ⟨σ.slots, b1⟩) hn1.rel h2
      exact ⟨F2, m2, hn1.trans hn2⟩
    · cases h

theorem fixBoxes_sound [Base] {l : List (Option Ty)} {b : Nat} (hR : Rel O F m σ a w) (h : fixBoxes σ.boxes b l = some bs') : ∃ F' m', Normed O F F' m m' σ bs' a w := by
  induction l generalizing F m σ b with
  | nil =>
    obtain rfl := Option.some.inj h
    exact ⟨F, m, .refl hR⟩
  | cons p l ih =>
    cases p with
    | none => exact ih hR h
    | some t =>
      simp only [fixBoxes, Option.bind_eq_some_iff] at h
      obtain ⟨b1, h1, h2⟩ := h
      obtain ⟨F1, m1, hn1⟩ := fixBox_sound hR h1
      obtain ⟨F2, m2, hn2⟩ := ih (σ := ⟨σ.slots, b1⟩) hn1.rel h2
      exact ⟨F2, m2, hn1.trans hn2⟩

/-- A state in another form. -/
structure NormedS [Base] (O : Nat → Prop) (F F' : Fz) (m m' : Nat → Value) (σ σ' : St) (a : Act) (w : World) : Prop where
  rel : Rel O F' m' σ' a w
  fz' : ∀ g, F' g → F g ∨ O g
  later : Later F F' w w m m' σ.boxes σ'.boxes
theorem Normed.toS [Base] (h : Normed O F F' m m' σ bs' a w) : NormedS O F F' m m' σ ⟨σ.slots, bs'⟩ a w := ⟨h.rel, h.fz', h.later⟩
theorem NormedS.trans [Base] {F1 F2 : Fz} {m1 m2 : Nat → Value} {σ1 σ2 : St} (h : NormedS O F F1 m m1 σ σ1 a w) (k : NormedS O F1 F2 m1 m2 σ1 σ2 a w) : NormedS O F F2 m m2 σ σ2 a w :=
  ⟨k.rel, fun g hg => by
    rcases k.fz' g hg with hg | hg
    · exact h.fz' g hg
    · exact .inr hg, h.later.trans k.later⟩

theorem fixSlots_sound [Base] {l : List (Nat × Md)} {σ' : St} (hR : Rel O F m σ a w) (hO : ∀ g, w.heap.size ≤ g → O g) (h : fixSlots σ l = some σ') : ∃ F' m', NormedS O F F' m m' σ σ' a w := by
  induction l generalizing F m σ with
  | nil =>
    obtain rfl := Option.some.inj h
    exact ⟨F, m, (Normed.refl hR).toS⟩
  | cons p l ih =>
    obtain ⟨i, md⟩ := p
    simp only [fixSlots, Option.bind_eq_some_iff] at h
    obtain ⟨⟨v, b1⟩, h1, h2⟩ := h
    have hs := hR.slots.getD i .undef undef rfl
    obtain ⟨F1, m1, hn1, hv⟩ := normV_sound hR hO hs h1
    have hrel : Rel O F1 m1 ⟨σ.slots.set i v, b1⟩ a w := by
      refine ⟨?_, hn1.rel.boxes, hn1.rel.own, hn1.rel.defers⟩
      rcases Nat.lt_or_ge i a.tmps.toList.length with hlt | hge
      · refine hn1.rel.slots.set' (y := a.tmps.toList.getD i undef) ?_ hv
        rw [List.getD_eq_getElem?_getD, List.getElem?_eq_getElem hlt]
        rfl
      · have hl := hR.slots.length
        show All2 _ (σ.slots.set i v) _
        rw [List.set_eq_of_length_le (by omega)]
        exact hn1.rel.slots
    obtain ⟨F2, m2, hn2⟩ := ih hrel h2
    exact ⟨F2, m2, NormedS.trans ⟨hrel, hn1.fz', hn1.later⟩ hn2⟩
end Go.Lin
end

/- Regions, code, whole functions. -/
section
namespace Go.Lin

variable {F F' : Fz} {w w' w0 : World} {m m' : Nat → Value} {bs bs' : List Box} {O : Nat → Prop} {σ : St} {a : Act} {P : Program} {tt : TT} {ρ : Type} {r : ρ} {K : V → St → Option ρ} {o : Oper} {next : Act → World → Prop} {Q : Exit → Act → World → Prop}

theorem All2.inv1 [Base] {α β : Type} {R : α → β → Prop} {x : α} {ys : List β} (h : All2 R [x] ys) : ∃ y, ys = [y] ∧ R x y := h.one
theorem All2.inv2 [Base] {α β : Type} {R : α → β → Prop} {x x' : α} {ys : List β} (h : All2 R [x, x'] ys) : ∃ y y', ys = [y, y'] ∧ R x y ∧ R x' y' := by
  cases h with
  | cons h t =>
    obtain ⟨y', rfl, h'⟩ := t.inv1
    exact ⟨_, _, rfl, h, h'⟩

theorem Out.of_normed [Base] {F' : Fz} {m' : Nat → Value} {v : Value} {w' : World} (hn : Normed O F F' m m' σ bs' a w) (h : Out O F' w m' bs' K r a v w') : Out O F w m σ.boxes K r a v w' := by
  obtain ⟨x, σ', F2, m2, hK, hR, hv, hk, h1, h2⟩ := h
  exact ⟨x, σ', F2, m2, hK, hR, hv, hk, hn.later.trans h1, fun g hg => by
    rcases h2 g hg with hg | hg
    · exact hn.fz' g hg
    · exact .inr hg⟩

theorem callC_sound [Base] {C : FuncId → List Md × Orc ρ} {g : FuncId} (hC : Real P g (C g).2) {args : List V} {cargs : Array Value} (hR : Rel O F m σ a w) (hO : ∀ g, w.heap.size ≤ g → O g) (hargs : All2 (RV F w m σ.boxes) args cargs.toList)
    (h : callC C g args σ K = some r) : Calls P g cargs w fun e w' => ∃ cv, e = .returned cv ∧ Out O F w m σ.boxes K r a cv w' := by
  unfold callC at h
  simp only [Option.bind_eq_some_iff] at h
  obtain ⟨⟨args', b1⟩, hn, h⟩ := h
  obtain ⟨F', m', hnm, hr⟩ := norms_sound hR hO hargs hn
  refine (callX_sound (σ := ⟨σ.slots, b1⟩) hC hnm.rel hO hr h).mono ?_
  rintro e w' ⟨cv, he, ho⟩
  exact ⟨cv, he, Out.of_normed hnm ho⟩

/-- The functions that may be called: they have a body. -/
def Callable (P : Program) (g : FuncId) : Prop := ∃ fn, P.funcs[g]? = some fn ∧ fn.name ≠ "runtime.NumGoroutine" ∧ fn.body ≠ none

/-- Each oracle tells what its function does. -/
def Reals [Base] (P : Program) (C : FuncId → List Md × Orc ρ) : Prop := ∀ g args bxs K r, (C g).2 args bxs K = some r → Callable P g ∧ Real P g (C g).2

theorem run_callee {c : Call} {f : Operand} {g : FuncId} {vs : Array Value} (ho : o.op = .call c) (hc : c.callee = .value f) (hf : a.eval f = .func (.func g) #[] vs) (hg : Callable P g) :
    (execOp a.eval o).run P w = .ok (.enter g (c.args.map a.eval ++ vs)) w := by
  obtain ⟨fn, h1, h2, h3⟩ := hg
  simp only [execOp, ho, resolve, hc, hf, Deferred.ofValue, Sem.run_bind, Sem.run_pure, Result.andThen_ok, invoke, callFunc]
  simp [h1, h2, h3, Sem.run_pure]

theorem callX_used [Base] {C : Orc ρ} {args : List V} (h : callX C args σ K = some r) : ∃ args bxs K', C args bxs K' = some r := by
  unfold callX at h
  exact ⟨_, _, _, (chk_some h).2⟩
theorem callC_used [Base] {C : FuncId → List Md × Orc ρ} {g : FuncId} {args : List V} (h : callC C g args σ K = some r) : ∃ args bxs K', (C g).2 args bxs K' = some r := by
  unfold callC at h
  simp only [Option.bind_eq_some_iff] at h
  obtain ⟨_, _, h⟩ := h
  exact callX_used h

theorem step_call [Base] {C : FuncId → List Md × Orc ρ} (hC : Reals P C) (hR : Rel O F m σ a w) (hO : ∀ g, w.heap.size ≤ g → O g) {c : Call} {f : Operand} (ho : o.op = .call c) (hc : c.callee = .value f)
    (h : (match σ.ev f with | .fn g caps => callC C g (c.args.toList.map σ.ev ++ caps) σ K | _ => none) = some r)
    (hn : ∀ cv w', Out O F w m σ.boxes K r a cv w' → next (a.put o.dst cv) w') : o.wp P a w next Q := by
  have hf := ev_sound hR.slots f
  split at h
  · rename_i g caps hv
    rw [hv] at hf
    obtain ⟨vs, hfe, hcaps⟩ := hf
    obtain ⟨_, _, _, hu⟩ := callC_used h
    obtain ⟨hcal, hreal⟩ := hC g _ _ _ _ hu
    unfold Oper.wp
    rw [run_callee ho hc hfe hcal, Oper.upon_enter]
    have hargs : All2 (RV F w m σ.boxes) (c.args.toList.map σ.ev ++ caps) (c.args.map a.eval ++ vs).toList := by
      rw [Array.toList_append]
      refine (list_map_ev hR.slots).append (hcaps.mono fun x y hx => ?_)
      cases x <;> first | exact hx | exact hx.elim | exact trivial
    refine (callC_sound hreal hR hO hargs h).mono ?_
    rintro e w' ⟨cv, rfl, hout⟩
    exact hn cv w' hout
  · cases h

theorem run_builtin {b : Builtin} {c : Call} (ho : o.op = .call c) (hc : c.callee = .builtin b) {s : Sem Value} {cv : Value} (hs : ∀ consts, builtin b c.argTypes o.type consts (c.args.map a.eval) = (do pure (Next.value (← s)))) (hrun : s.run P w = .ok cv w') :
    (execOp a.eval o).run P w = .ok (.value cv) w' := by
  simp only [execOp, ho, resolve, hc, Sem.run_bind, Sem.run_pure, Result.andThen_ok, invoke, hs, hrun]

theorem step_builtin [Base] (hT : TTok P tt) (hR : Rel O F m σ a w) (hO : ∀ g, w.heap.size ≤ g → O g) {b : Builtin} {c : Call} (ho : o.op = .call c) (hc : c.callee = .builtin b)
    (h : builtinC tt b c.argTypes.toList (c.args.toList.map σ.ev) σ K = some r) : Yields P O F w m σ.boxes K r a o := by
  have hargs := list_map_ev (xs := c.args) hR.slots
  unfold builtinC at h
  split at h
  · rename_i t x hts hxs
    rw [hxs] at hargs
    obtain ⟨cx, hcs, hx⟩ := hargs.inv1
    simp only [Option.bind_eq_some_iff] at h
    obtain ⟨n, hn, h⟩ := h
    rw [cond_eq_ite] at h
    split at h
    case isFalse => cases h
    rename_i hfit
    have hca : c.args.map a.eval = #[cx] := by apply Array.ext'; rw [hcs]
    have hct : c.argTypes = #[t] := by apply Array.ext'; rw [hts]
    refine Yields.pure_ hR (cv := .int .i64 n) (run_builtin ho hc (s := Builtin.len_ c.argTypes o.type (c.args.map a.eval)) (fun _ => rfl) ?_) h rfl
    rw [hca, hct]
    rcases len_sound hR.boxes hn hx with ⟨A, cap, rfl, _⟩ | ⟨s, rfl, rfl, rfl⟩
    · have hu : ∃ e, P.underlying t = some (.slice e) := by
        revert hfit
        cases hk : (tt.at t).kind with
        | slice e => exact fun _ => ⟨e, (hT.slice hk).1⟩
        | str =>
          cases x <;> simp [lenFits] <;> try (intro h; done)
          exact absurd hx (by intro h; cases h)
        | _ => cases x <;> simp [lenFits]
      obtain ⟨e, hu⟩ := hu
      simp [Builtin.len_, run_underlying hu, goInt, Sem.run_pure]
    · have hu : P.underlying t = some .string := by
        revert hfit
        cases hk : (tt.at t).kind with
        | str => exact fun _ => hT.str hk
        | _ => simp [lenFits]
      simp [Builtin.len_, run_underlying hu, goInt, Sem.run_pure]
  · rename_i ts tx s x hts hxs
    rw [hxs] at hargs
    obtain ⟨cs, cx, hcs, hs, hx⟩ := hargs.inv2
    have hca : c.args.map a.eval = #[cs, cx] := by apply Array.ext'; rw [hcs]
    have hct : c.argTypes = #[ts, tx] := by apply Array.ext'; rw [hts]
    obtain ⟨cv, w', hrun, hout⟩ := step_append (ty := o.type) hT hR hO hs hx h
    exact ⟨cv, w', run_builtin ho hc (s := Builtin.append_ c.argTypes o.type (c.args.map a.eval)) (fun _ => rfl) (by rw [hca, hct]; exact hrun), hout⟩
  · rename_i k x k' y hxs
    rw [hxs] at hargs
    obtain ⟨cx, cy, hcs, hx, hy⟩ := hargs.inv2
    have hca : c.args.map a.eval = #[cx, cy] := by apply Array.ext'; rw [hcs]
    simp only [Bool.cond_decide] at h
    split at h
    case isFalse => cases h
    rename_i hk
    subst hk
    refine Yields.pure_ hR (cv := .int k (if y < x then y else x)) (run_builtin ho hc (s := Builtin.min_ c.argTypes o.type (c.args.map a.eval)) (fun _ => rfl) ?_) h rfl
    rw [hca, RV.int_inv hx, RV.int_inv hy]
    simp [Builtin.min_, Builtin.min2, Sem.run_pure]
  · rename_i k x k' y hxs
    rw [hxs] at hargs
    obtain ⟨cx, cy, hcs, hx, hy⟩ := hargs.inv2
    have hca : c.args.map a.eval = #[cx, cy] := by apply Array.ext'; rw [hcs]
    simp only [Bool.cond_decide] at h
    split at h
    case isFalse => cases h
    rename_i hk
    subst hk
    refine Yields.pure_ hR (cv := .int k (if y > x then y else x)) (run_builtin ho hc (s := Builtin.max_ c.argTypes o.type (c.args.map a.eval)) (fun _ => rfl) ?_) h rfl
    rw [hca, RV.int_inv hx, RV.int_inv hy]
    simp [Builtin.max_, Builtin.max2, Sem.run_pure]
  · cases h

theorem Yields.wp [Base] (h : Yields P O F w m σ.boxes K r a o) (hn : ∀ cv w', Out O F w m σ.boxes K r a cv w' → next (a.put o.dst cv) w') : o.wp P a w next Q := by
  obtain ⟨cv, w', hrun, hout⟩ := h
  exact wp_value hrun (hn cv w' hout)

theorem step_sound [Base] (hT : TTok P tt) {C : FuncId → List Md × Orc ρ} (hC : Reals P C) (hR : Rel O F m σ a w) (hO : ∀ g, w.heap.size ≤ g → O g) (h : step tt C o σ K = some r)
    (hn : ∀ cv w', Out O F w m σ.boxes K r a cv w' → next (a.put o.dst cv) w') : o.wp P a w next Q := by
  unfold step at h
  cases ho : o.op with
  | move x =>
    rw [ho] at h
    have h : K (σ.ev x) σ = some r := h
    exact (step_move hR (.inl ho) h).wp hn
  | assign x =>
    rw [ho] at h
    have h : K (σ.ev x) σ = some r := h
    exact (step_move hR (.inr ho) h).wp hn
  | pick c x y =>
    rw [ho] at h
    have h : stepPick σ K c x y = some r := h
    exact (step_pick hR ho h).wp hn
  | alloc t =>
    rw [ho] at h
    have h : stepAlloc tt σ K t = some r := h
    exact (step_alloc hT hR hO ho h).wp hn
  | box t x =>
    rw [ho] at h
    have h : stepBox tt σ K t x = some r := h
    exact (step_box hR hO ho h).wp hn
  | build t parts =>
    rw [ho] at h
    have h : stepBuild tt σ K t parts = some r := h
    exact (step_build hT hR ho h).wp hn
  | buildSlice t len parts =>
    rw [ho] at h
    have h : stepBuildSlice tt σ K t len parts = some r := h
    exact (step_buildSlice hT hR hO ho h).wp hn
  | load t x =>
    rw [ho] at h
    have h : stepLoad tt σ K t x = some r := h
    exact (step_load hT hR ho h).wp hn
  | nilCheck x =>
    rw [ho] at h
    have h : stepNil σ K x = some r := h
    exact (step_nilCheck hR ho h).wp hn
  | binOp op t x y ty =>
    rw [ho] at h
    have h : stepBin tt σ K op t x y = some r := h
    exact (step_binop hT hR ho h).wp hn
  | unOp op t x =>
    rw [ho] at h
    have h : unop op (σ.ev x) (fun v => K v σ) = some r := h
    exact (step_unop hR ho h).wp hn
  | convert s d x =>
    rw [ho] at h
    have h : convertTo tt s d (σ.ev x) σ K = some r := h
    exact (step_convert hT hR ho h).wp hn
  | makeSlice t l c =>
    rw [ho] at h
    have h : stepMake tt σ K t l c = some r := h
    exact (step_makeSlice hT hR hO ho h).wp hn
  | fieldAddr t x f =>
    rw [ho] at h
    have h : stepFieldAddr tt σ K t x f = some r := h
    exact (step_fieldAddr hT hR ho h).wp hn
  | field t x f =>
    rw [ho] at h
    have h : stepField tt σ K t x f = some r := h
    exact (step_field hT hR ho h).wp hn
  | indexAddr t x i =>
    rw [ho] at h
    have h : stepIndexAddr tt σ K t x i = some r := h
    exact (step_indexAddr hT hR ho h).wp hn
  | index t x i =>
    rw [ho] at h
    have h : stepIndex tt σ K t x i = some r := h
    exact (step_index hT hR ho h).wp hn
  | extract x i =>
    rw [ho] at h
    have h : stepExtract σ K x i = some r := h
    exact (step_extract hR ho h).wp hn
  | store t x y =>
    rw [ho] at h
    have h : stepStore tt σ K t x y = some r := h
    obtain ⟨w', hrun, hout⟩ := step_store hT hR ho h
    exact wp_skip_ hrun (hn _ _ hout)
  | makeFunc fn first caps =>
    rw [ho] at h
    have h : stepFunc σ K fn first caps = some r := h
    cases fn with
    | func f => exact (step_makeFunc hR ho h).wp hn
    | _ => cases h
  | slice t x lo hi mx =>
    rw [ho] at h
    have h : stepSlice tt σ K t x lo hi mx = some r := h
    cases mx with
    | none => exact (step_cut hT hR hO ho h).wp hn
    | some y => cases h
  | call c =>
    rw [ho] at h
    have h : stepCall tt C σ K c = some r := h
    unfold stepCall at h
    cases hc : c.callee with
    | builtin b =>
      rw [hc] at h
      exact (step_builtin hT hR hO ho hc h).wp hn
    | value f =>
      rw [hc] at h
      exact step_call hC hR hO ho hc h hn
    | invoke x n => rw [hc] at h; cases h
  | _ =>
    rw [ho] at h
    have h : (none : Option ρ) = some r := h
    cases h

/-! ### the state is kept plain -/
theorem forceN_eq {l : List Nat} {b : Nat} {K : Nat → Option ρ} : forceN l b K = K b := by
  induction l with
  | nil => rfl
  | cons i l ih =>
    unfold forceN
    cases h : Nat.beq b i with
    | true => rw [Nat.eq_of_beq_eq_true h]; rfl
    | false => exact ih
theorem forceV_eq [Base] {v : V} {K : V → Option ρ} : forceV v K = K v := by cases v <;> first | rfl | simp [forceV, forceN_eq]
theorem forceL_eq {l : List V} {K : List V → Option ρ} : forceL l K = K l := by
  induction l generalizing K with
  | nil => rfl
  | cons v l ih => simp [forceL, ih]
theorem forceLV_eq [Base] {l : List V} {K : List V → Option ρ} : forceLV l K = K l := by
  induction l generalizing K with
  | nil => rfl
  | cons v l ih => simp [forceLV, forceV_eq, ih]
theorem forceX_eq [Base] {x : Box} {K : Box → Option ρ} : forceX x K = K x := by cases x <;> simp [forceX, forceLV_eq]
theorem forceB_eq [Base] {l : List Box} {K : List Box → Option ρ} : forceB l K = K l := by
  induction l generalizing K with
  | nil => rfl
  | cons v l ih => simp [forceB, forceX_eq, ih]
theorem forceA_eq [Base] {v : V} {K : V → Option ρ} : forceA v K = K v := by cases v <;> simp [forceA, forceLV_eq, forceV_eq]
theorem putF_eq [Base] {σ : St} {dst : Option Nat} {v : V} {K : St → Option ρ} : putF σ dst v K = K (σ.put dst v) := by
  simp only [putF, forceA_eq, forceL_eq, forceB_eq]
  cases dst <;> rfl
theorem forceS_eq [Base] {σ : St} {K : St → Option ρ} : forceS σ K = K σ := by simp [forceS, forceLV_eq, forceB_eq]

/-! ### regions -/
/-- What is so behind a row of operations. -/
def OutS [Base] (O : Nat → Prop) (F : Fz) (w : World) (m : Nat → Value) (bs : List Box) (K : St → Option ρ) (r : ρ) (a' : Act) (w' : World) : Prop :=
  ∃ σ' F' m', K σ' = some r ∧ Rel O F' m' σ' a' w' ∧ Keep O w w' ∧ Later F F' w w' m m' bs σ'.boxes ∧ ∀ g, F' g → F g ∨ O g
theorem OutS.trans [Base] {K' : St → Option ρ} {a2 : Act} {w1 w2 : World} {F1 : Fz} {m1 : Nat → Value} {b1 : List Box} (hk : Keep O w w1) (h1 : Later F F1 w w1 m m1 bs b1) (h2 : ∀ g, F1 g → F g ∨ O g) (h : OutS O F1 w1 m1 b1 K' r a2 w2) : OutS O F w m bs K' r a2 w2 := by
  obtain ⟨σ', F', m', hK, hR, hk', h3, h4⟩ := h
  exact ⟨σ', F', m', hK, hR, hk.trans hk', h1.trans h3, fun g hg => by
    rcases h4 g hg with hg | hg
    · exact h2 g hg
    · exact .inr hg⟩

theorem wanted_none (h : o.guard = none) (y : Nat → Option Bool) : Region.wanted o y = true := by simp [Region.wanted, h]

/-- What the operations come to, one behind the other. -/
theorem runOps_sound [Base] (hT : TTok P tt) {C : FuncId → List Md × Orc ρ} (hC : Reals P C) {ops : Array Oper} {K : St → Option ρ} {Qn : Act → World → Prop} {Q : Exit → Act → World → Prop} (hQ : ∀ a w, Qn a w → Q .normal a w) :
    ∀ (l : List Nat) (os : List Oper) (σ : St) (F : Fz) (m : Nat → Value) (a : Act) (w : World), os = l.filterMap (ops[·]?) → (∀ i ∈ l, i < ops.size) → Rel O F m σ a w → (∀ g, w.heap.size ≤ g → O g) → runOps tt C ops.toList os σ K = some r →
      (∀ a' w', OutS O F w m σ.boxes K r a' w' → Qn a' w') → wpOps P ops Q l a w := by
  intro l
  induction l with
  | nil =>
    intro os σ F m a w hos _ hR hO h hn
    subst hos
    exact hQ _ _ (hn a w ⟨σ, F, m, h, hR, .refl O w, .refl, fun _ h => .inl h⟩)
  | cons i l ih =>
    intro os σ F m a w hos hl hR hO h hn
    have hi := hl i (by simp)
    have hget : ops[i]? = some ops[i] := by simp [hi]
    rw [List.filterMap_cons, hget] at hos
    dsimp only at hos
    subst hos
    -- how it goes on behind one operation
    have goOn : ∀ {cv : Value} {v : V} {σ1 : St} {F1 : Fz} {m1 : Nat → Value} {w1 : World}, Rel O F1 m1 σ1 a w1 → RV F1 w1 m1 σ1.boxes v cv → Keep O w w1 → Later F F1 w w1 m m1 σ.boxes σ1.boxes → (∀ g, F1 g → F g ∨ O g) →
        runOps tt C ops.toList (l.filterMap (ops[·]?)) (σ1.put ops[i].dst v) K = some r → wpOps P ops Q l (a.put ops[i].dst cv) w1 := by
      intro cv v σ1 F1 m1 w1 hR1 hv hk h1 h2 hrun
      refine ih _ (σ1.put ops[i].dst v) F1 m1 _ w1 rfl (fun j hj => hl j (by simp [hj])) (hR1.put hv _) (fun g hg => hO g (Nat.le_trans hk.size hg)) hrun fun a' w' hout => hn a' w' (OutS.trans hk h1 h2 (by rw [St.put_boxes] at hout; exact hout))
    simp only [wpOps, hget]
    simp only [runOps] at h
    split at h
    · rename_i hg
      rw [if_pos (wanted_none hg _)]
      refine .inl (step_sound hT hC hR hO h fun cv w' hout => ?_)
      obtain ⟨v, σ1, F1, m1, hK, hR1, hv, hk, h1, h2⟩ := hout
      simp only [putF_eq] at hK
      exact goOn hR1 hv hk h1 h2 hK
    · rename_i j want hg
      split at h
      · cases h
      · rename_i d hd
        have hd' : (ops[j]?).bind (·.dst) = some d := by simpa using hd
        have hslot := hR.slots.getD d .undef undef rfl
        have hy : ∀ x, a.tmps.toList[d]? = some x → yielded ops a.tmps j = (match x with | .bool b => some b | _ => none) := by
          intro x hx
          have hx' : a.tmps[d]? = some x := by simpa using hx
          simp only [yielded, hd', Option.bind_some, hx']
          cases x <;> rfl
        have hy0 : a.tmps.toList[d]? = none → yielded ops a.tmps j = none := by
          intro hx
          have hx' : a.tmps[d]? = none := by simpa using hx
          simp only [yielded, hd', Option.bind_some, hx']
        split at h
        · rename_i t hv
          rw [hv] at hslot
          have hb : a.tmps.toList.getD d undef = .bool t := RV.bool_inv hslot
          have hyt : yielded ops a.tmps j = some t := by
            rw [List.getD_eq_getElem?_getD] at hb
            cases hq : a.tmps.toList[d]? with
            | none => rw [hq] at hb; cases hb
            | some x =>
              rw [hq] at hb
              have hb : x = .bool t := hb
              rw [hy x hq, hb]
          -- the guard's slot is known on each way
          have known : ∀ {K' : St → Option ρ}, putF σ (some d) (.bool t) K' = some r → K' (σ.put (some d) (.bool t)) = some r := fun h => by rwa [putF_eq] at h
          have hsame : a.put (some d) (.bool t) = a := by
            have hlt : d < a.tmps.size := by
              rcases Nat.lt_or_ge d a.tmps.size with h | h
              · exact h
              · rw [List.getD_eq_getElem?_getD, List.getElem?_eq_none (by simpa using h)] at hb
                cases hb
            have he : a.tmps[d]'hlt = .bool t := by
              simpa [List.getD_eq_getElem?_getD, hlt] using hb
            show ({ a with tmps := a.tmps.setIfInBounds d (.bool t) } : Act) = a
            have : a.tmps.setIfInBounds d (.bool t) = a.tmps := by
              apply Array.ext'
              rw [Array.toList_setIfInBounds, ← he]
              have : a.tmps[d]'hlt = a.tmps.toList[d]'(by simpa using hlt) := by simp
              rw [this, List.set_getElem_self]
            rw [this]
          have hR' : Rel O F m (σ.put (some d) (.bool t)) a w := by
            have := hR.put (v := .bool t) (cv := .bool t) rfl (some d)
            rwa [hsame] at this
          have yes : t = want → step tt C ops[i] (σ.put (some d) (.bool t)) (fun v σ' => putF σ' ops[i].dst v fun σ' => runOps tt C ops.toList (l.filterMap (ops[·]?)) σ' K) = some r →
              (if Region.wanted ops[i] (yielded ops a.tmps) = true then ops[i].wp P a w (wpOps P ops Q l) Q ∨ (ops[i].asks P a w ∧ LetsOut Q) else wpOps P ops Q l (a.put ops[i].dst undef) w) := by
            intro ht hstep
            have hw : Region.wanted ops[i] (yielded ops a.tmps) = true := by simp [Region.wanted, hg, hyt, ht]
            rw [if_pos hw]
            refine .inl (step_sound hT hC hR' hO hstep fun cv w' hout => ?_)
            obtain ⟨v, σ1, F1, m1, hK, hR1, hv, hk, h1, h2⟩ := hout
            simp only [putF_eq] at hK
            rw [St.put_boxes] at h1
            exact goOn hR1 hv hk h1 h2 hK
          have no : t ≠ want → (putF (σ.put (some d) (.bool t)) ops[i].dst .undef fun σ' => runOps tt C ops.toList (l.filterMap (ops[·]?)) σ' K) = some r →
              (if Region.wanted ops[i] (yielded ops a.tmps) = true then ops[i].wp P a w (wpOps P ops Q l) Q ∨ (ops[i].asks P a w ∧ LetsOut Q) else wpOps P ops Q l (a.put ops[i].dst undef) w) := by
            intro ht hrest
            have hw : ¬ Region.wanted ops[i] (yielded ops a.tmps) = true := by simp [Region.wanted, hg, hyt, ht]
            rw [if_neg hw]
            rw [putF_eq] at hrest
            exact goOn (v := .undef) hR' rfl (.refl O w) (by rw [St.put_boxes]; exact .refl) (fun _ h => .inl h) hrest
          cases t <;> cases want
          · exact yes rfl (known h)
          · exact no (by simp) (known h)
          · exact no (by simp) (known h)
          · exact yes rfl (known h)
        · rename_i hv
          rw [hv] at hslot
          have hb : a.tmps.toList.getD d undef = .tuple #[] := hslot
          have hyn : yielded ops a.tmps j = none := by
            rw [List.getD_eq_getElem?_getD] at hb
            cases hq : a.tmps.toList[d]? with
            | none => exact hy0 hq
            | some x =>
              rw [hq] at hb
              have hb : x = .tuple #[] := hb
              rw [hy x hq, hb]
          have hw : ¬ Region.wanted ops[i] (yielded ops a.tmps) = true := by simp [Region.wanted, hg, hyn]
          rw [if_neg hw]
          rw [putF_eq] at h
          exact goOn (v := .undef) hR rfl (.refl O w) .refl (fun _ h => .inl h) h
        · cases h
end Go.Lin
end
