/- The machine: from the evaluator to whole functions. -/
import Derived.Test.YtgbfelpdlekbkaaDoorEv3
import Derived.Orders
set_option linter.unusedVariables false
set_option linter.unusedSimpArgs false
section
namespace Go.Lin

variable {F F' F0 : Fz} {w w' w0 : World} {m m' m0 : Nat → Value} {bs bs' bs0 : List Box} {O : Nat → Prop} {σ : St} {a : Act} {P : Program} {tt : TT} {ρ : Type} {r : ρ} {R : Ending → World → Prop}

/-- What is so from the entry on. -/
structure Inv [Base] (O : Nat → Prop) (F0 : Fz) (w0 : World) (m0 : Nat → Value) (bs0 : List Box) (F : Fz) (m : Nat → Value) (σ : St) (a : Act) (w : World) : Prop where
  rel : Rel O F m σ a w
  keep : Keep O w0 w
  later : Later F0 F w0 w m0 m bs0 σ.boxes
  fz : ∀ g, F g → F0 g ∨ O g

theorem Inv.out [Base] {K : St → Option ρ} {a' : Act} (h : Inv O F0 w0 m0 bs0 F m σ a w) (ho : OutS O F w m σ.boxes K r a' w') : ∃ σ' F' m', K σ' = some r ∧ Inv O F0 w0 m0 bs0 F' m' σ' a' w' := by
  obtain ⟨σ', F', m', hK, hR, hk, hL, hF⟩ := ho
  refine ⟨σ', F', m', hK, hR, h.keep.trans hk, h.later.trans hL, fun g hg => ?_⟩
  rcases hF g hg with hg | hg
  · exact h.fz g hg
  · exact .inr hg

/-! ### at a loop's head -/
theorem addNew_pre (l : List Nat) (n : Nat) : ∃ t, addNew l n = l ++ t := by
  unfold addNew
  cases l.contains n
  · exact ⟨[n], rfl⟩
  · exact ⟨[], by simp⟩
theorem foldl_pre [Base] (xs l : List Nat) : ∃ t, xs.foldl addNew l = l ++ t := by
  induction xs generalizing l with
  | nil => exact ⟨[], by simp⟩
  | cons x xs ih =>
    obtain ⟨t, ht⟩ := addNew_pre l x
    obtain ⟨u, hu⟩ := ih (addNew l x)
    exact ⟨t ++ u, by rw [List.foldl_cons, hu, ht, List.append_assoc]⟩
theorem reach_pre [Base] (n : Nat) (vs : List V) : ∃ t, reach bs (idsOf (List.range n) vs) = List.range n ++ t := by
  obtain ⟨t, ht⟩ := foldl_pre (vs.flatMap V.ids) (List.range n)
  unfold reach idsOf
  rw [ht]
  obtain ⟨u, hu⟩ := foldl_pre ((List.range n ++ t).flatMap fun b => (bs.getD b .dead).ids) (List.range n ++ t)
  exact ⟨t ++ u, by rw [hu, List.append_assoc]⟩

theorem forget_sound {live : List Nat} {vs : List V} {cs : List Value} (h : All2 (RV F w m bs) vs cs) : ∀ n, All2 (RV F w m bs) ((vs.zipIdx n).map fun p => bif live.contains p.2 then p.1 else V.junk) cs := by
  induction h with
  | nil => exact fun _ => .nil
  | cons h _ ih =>
    intro n
    rw [List.zipIdx_cons, List.map_cons]
    refine .cons ?_ (ih (n + 1))
    dsimp only
    cases live.contains n
    · exact trivial
    · exact h

theorem le_ren_right {x y : Box} {f : Nat → Nat} (h : Box.le x y) : Box.le x (y.ren f) := by
  cases x <;> cases y <;> exact h

theorem canon_sound [Base] {live : List Nat} {K : St → Option ρ} (hI : Inv O F0 w0 m0 bs0 F m σ a w) (h : canon bs0.length live σ K = some r) :
    ∃ σ' m', K σ' = some r ∧ Inv O F0 w0 m0 bs0 F m' σ' a w := by
  unfold canon at h
  replace h := chk_some h
  obtain ⟨hok, h⟩ := h
  rw [forceS_eq] at h
  generalize hsl : ((σ.slots.zipIdx).map fun p => bif live.contains p.2 then p.1 else V.junk) = slots at h hok
  obtain ⟨t, ht⟩ := reach_pre (bs := σ.boxes) bs0.length slots
  generalize hids : reach σ.boxes (idsOf (List.range bs0.length) slots) = ids at h hok ht
  obtain ⟨hn, hav, hcl, hlt⟩ := okIds_parts hok
  have hslots : All2 (RV F w m σ.boxes) slots a.tmps.toList := by rw [← hsl]; exact forget_sound hI.rel.slots 0
  have hrs := ren_sub (m := m) (bs := σ.boxes) (ids := ids)
  have hgd : ∀ b, b < bs0.length → ∃ hb : b < ids.length, ids[b] = b := by
    intro b hb
    subst ht
    exact ⟨by simp; omega, by rw [List.getElem_append_left (by simpa using hb)]; simp⟩
  refine ⟨_, msub ids m, h, ⟨hslots.ren fun v hv c hr => hr.ren hrs (hav v hv), hI.rel.boxes.sub hok, fun g hg => ?_, hI.rel.defers⟩, hI.keep, ⟨hI.later.fz, hI.later.blk, ?_, fun b hb => ?_, fun b hb => ?_⟩, hI.fz⟩
  · obtain ⟨b, _, x, hx, hl, hb⟩ := Owned.sub hlt hg
    exact hI.rel.own g ⟨b, x, hx, hl, hb⟩
  · subst ht
    simp
  · obtain ⟨hb', he⟩ := hgd b hb
    have h1 := hI.later.le b hb
    show Box.le _ ((sub ids σ.boxes).getD b .dead)
    rw [getD_of_get (sub_get hb'), he]
    exact le_ren_right h1
  · obtain ⟨hb', he⟩ := hgd b hb
    simp only [msub]
    rw [List.getD_eq_getElem?_getD, List.getElem?_eq_getElem hb', he]
    exact hI.later.hd b hb

theorem Inv.normed [Base] {m' : Nat → Value} {σ' : St} {F' : Fz} (hI : Inv O F0 w0 m0 bs0 F m σ a w) (hn : NormedS O F F' m m' σ σ' a w) : Inv O F0 w0 m0 bs0 F' m' σ' a w :=
  ⟨hn.rel, hI.keep, hI.later.trans hn.later, fun g hg => by
    rcases hn.fz' g hg with hg | hg
    · exact hI.fz g hg
    · exact .inr hg⟩

theorem canonAt_sound [Base] {hd : Head} {K : St → Option ρ} (hO : ∀ g, w.heap.size ≤ g → O g) (hI : Inv O F0 w0 m0 bs0 F m σ a w) (h : canonAt bs0.length hd σ K = some r) :
    ∃ σ' F' m', K σ' = some r ∧ Inv O F0 w0 m0 bs0 F' m' σ' a w := by
  unfold canonAt at h
  simp only [Option.bind_eq_some_iff] at h
  obtain ⟨σ1, h1, b2, h2, h⟩ := h
  obtain ⟨F1, m1, hn1⟩ := fixSlots_sound hI.rel hO h1
  obtain ⟨F2, m2, hn2⟩ := fixCells_sound hn1.rel hO h2
  obtain ⟨σ', m', hK, hI'⟩ := canon_sound ((hI.normed hn1).normed hn2.toS) h
  exact ⟨σ', F2, m', hK, hI'⟩

/-! ### the draw is counted -/
theorem Later.drawn [Base] : Later F F w { w with drawn := w.drawn + 1 } m m bs bs := ⟨fun _ h => h, fun _ _ => rfl, Nat.le_refl _, fun _ _ => Box.le_refl _, fun _ _ => rfl⟩
theorem Rel.drawn [Base] (h : Rel O F m σ a w) : Rel O F m σ a { w with drawn := w.drawn + 1 } := by
  refine ⟨h.slots.mono fun _ _ hv => hv.later .drawn, ⟨fun b x hx => ?_, h.boxes.apart, h.boxes.fz, Base.later (F := F) (w := w) (fun _ h => h) (fun _ _ => rfl) h.boxes.glob⟩, h.own, h.defers⟩
  exact (h.boxes.box b x hx).later .drawn (get_lt hx) fun hl g hg => ⟨rfl, (h.boxes.box b x hx).notF hl hg⟩
theorem Inv.drawn [Base] (h : Inv O F0 w0 m0 bs0 F m σ a w) : Inv O F0 w0 m0 bs0 F m σ a { w with drawn := w.drawn + 1 } :=
  ⟨h.rel.drawn, ⟨h.keep.os, h.keep.tape, h.keep.output, h.keep.size, h.keep.block⟩, h.later.trans .drawn, h.fz⟩

/-! ### the machine -/
/-- From here the call comes to its end. -/
def Ends (P : Program) (R : Ending → World → Prop) (b : Frame) (cs : List Frame) (k : List Item) (a : Act) (w : World) : Prop :=
  ∃ e w' fr, R e w' ∧ Comes P (lone (b.at a k) cs w) (lone fr cs w') e ∧ fr.fn = b.fn ∧ fr.leaving P w' e

theorem Ends.step {b : Frame} {cs : List Frame} {k k' : List Item} {a a' : Act} (hs : Go.step P (lone (b.at a k) cs w) = .next (lone (b.at a' k') cs w')) (h : Ends P R b cs k' a' w') : Ends P R b cs k a w := by
  obtain ⟨e, w2, fr, hR, hc, hrest⟩ := h
  exact ⟨e, w2, fr, hR, .of_steps (.one hs) hc, hrest⟩
theorem Ends.steps {b : Frame} {cs : List Frame} {k k' : List Item} {a a' : Act} (hs : Steps P (lone (b.at a k) cs w) (lone (b.at a' k') cs w')) (h : Ends P R b cs k' a' w') : Ends P R b cs k a w := by
  obtain ⟨e, w2, fr, hR, hc, hrest⟩ := h
  exact ⟨e, w2, fr, hR, .of_steps hs hc, hrest⟩

/-- The operations may be run in each order that their edges allow: what comes out is the same. -/
def DrawOK [Base] (P : Program) (tt : TT) (C : FuncId → List Md × Orc ρ) (ops : Array Oper) : Prop :=
  ∀ (K : St → Option ρ) r O F m σ a w (Q : Exit → Act → World → Prop), Rel O F m σ a w → (∀ g, w.heap.size ≤ g → O g) → runD tt C ops σ K = some r →
    (∀ a' w', OutS O F w m σ.boxes K r a' w' → Q .normal a' w') → wpAny P .any ops Q ops.size (Array.replicate ops.size false) a w

theorem range_filterMap (ops : Array Oper) : (List.range ops.size).filterMap (ops[·]?) = ops.toList := by
  have : ∀ n, n ≤ ops.size → (List.range n).filterMap (ops[·]?) = ops.toList.take n := by
    intro n
    induction n with
    | zero => simp
    | succ n ih =>
      intro hn
      have hlt : n < ops.size := hn
      rw [List.range_succ, List.filterMap_append, ih (by omega), List.take_add_one]
      congr 1
      simp [hlt]
  rw [this _ (Nat.le_refl _)]
  exact List.take_of_length_le (by simp)

variable {E : Env ρ} {fn : Func} {b : Frame} {cs : List Frame}

section
variable [Base] (hT : TTok P E.tt) (hC : Reals P E.C) (hO : ∀ g, w0.heap.size ≤ g → O g) (hnp : E.np = bs0.length) (hmix : P.follows .mixedOrders = true)
  (hdr : ∀ ops : Array Oper, DrawOK P E.tt E.C ops) (hkind : b.kind = .normal) (hfn : P.funcs[b.fn]? = some fn)
  (hfin : ∀ F m σ a w, Inv O F0 w0 m0 bs0 F m σ a w → E.fin σ = some r → ∃ cv, (results fn a.tmps).run P w = .ok cv w ∧ R (.returned cv) w)
include hT hC hO hnp hmix hdr hkind hfn hfin

theorem runS_sound {again : List Item → St → Option ρ} (hag : ∀ c k σ F m a w, Inv O F0 w0 m0 bs0 F m σ a w → again (.inLoop c :: k) σ = some r → Ends P R b cs (.code c :: .inLoop c :: k) a w)
    (hag2 : ∀ id ops d k σ F m a w, Inv O F0 w0 m0 bs0 F m σ a w → again (.code (.region id ops d) :: k) σ = some r → Ends P R b cs (.code (.region id ops d) :: k) a w) :
    ∀ (s : Nat) (k : List Item) (σ : St) (F : Fz) (m : Nat → Value) (a : Act) (w : World), Inv O F0 w0 m0 bs0 F m σ a w → runS E again s k σ = some r → Ends P R b cs k a w := by
  intro s
  induction s with
  | zero => intro k σ F m a w _ h; cases h
  | succ s ih =>
    intro k σ F m a w hI h
    have ends : ∀ {todo : List Item} {fr : Frame}, fr = { b.at a todo with mode := .returning } → E.fin σ = some r → Go.step P (lone (b.at a k) cs w) = .next (lone fr cs w) → Ends P R b cs k a w := by
      intro todo fr hfr hf hs
      obtain ⟨cv, hrun, hR⟩ := hfin F m σ a w hI hf
      refine ⟨.returned cv, w, fr, hR, .one hs, by rw [hfr]; rfl, ?_⟩
      subst hfr
      exact ⟨rfl, hI.rel.defers, hkind, fn, hfn, hrun⟩
    have hO' : ∀ g, w.heap.size ≤ g → O g := fun g hg => hO g (Nat.le_trans hI.keep.size hg)
    cases k with
    | nil =>
      have h : E.fin σ = some r := h
      exact ends (todo := []) rfl h step_end
    | cons it k =>
      cases it with
      | inBlock id =>
        have h : runS E again s k σ = some r := h
        exact .step step_inBlock (ih k σ F m a w hI h)
      | inLoop c =>
        have h : canonAt E.np (headAt E.heads (firstRegion c)) σ (fun σ' => again (.inLoop c :: k) σ') = some r := h
        rw [hnp] at h
        obtain ⟨σ', F', m', hK, hI'⟩ := canonAt_sound hO' hI h
        exact .step step_inLoop (hag _ _ _ _ _ _ _ hI' hK)
      | code c =>
        cases c with
        | skip =>
          have h : runS E again s k σ = some r := h
          exact .step step_skip (ih k σ F m a w hI h)
        | seq x y =>
          have h : runS E again s (.code x :: .code y :: k) σ = some r := h
          exact .step step_seq (ih _ σ F m a w hI h)
        | cond c x y =>
          have h : (match σ.ev c with | .bool t => cond t (runS E again s (.code x :: k) σ) (runS E again s (.code y :: k) σ) | _ => none) = some r := h
          have hc := ev_sound hI.rel.slots c
          split at h
          · rename_i t ht
            rw [ht] at hc
            cases t
            · exact .step (step_cond (RV.bool_inv hc)) (ih _ σ F m a w hI h)
            · exact .step (step_cond (RV.bool_inv hc)) (ih _ σ F m a w hI h)
          · cases h
        | block id c =>
          have h : runS E again s (.code c :: .inBlock id :: k) σ = some r := h
          exact .step step_block (ih _ σ F m a w hI h)
        | loop c =>
          have h : canonAt E.np (headAt E.heads (firstRegion c)) σ (fun σ' => again (.inLoop c :: k) σ') = some r := h
          rw [hnp] at h
          obtain ⟨σ', F', m', hK, hI'⟩ := canonAt_sound hO' hI h
          exact .step step_loop (hag _ _ _ _ _ _ _ hI' hK)
        | exit id =>
          have h : (match exitTo id k with | some k' => runS E again s k' σ | none => none) = some r := h
          split at h
          · rename_i k' hk
            exact .step (step_exit hk) (ih _ σ F m a w hI h)
          · cases h
        | ret =>
          have h : E.fin σ = some r := h
          exact ends rfl h step_ret
        | region id ops draw =>
          have h : (bif E.cuts.contains id then canonAt E.np (headAt E.heads id) σ fun σ' => again (.code (.region id ops draw) :: k) σ' else match (generalizing := false) draw with
            | false => runOps E.tt E.C ops.toList ops.toList σ fun σ' => runS E again s k σ'
            | true => runD E.tt E.C ops σ fun σ' => canon E.np (List.range σ'.slots.length) σ' fun σ'' => runS E again s k σ'') = some r := h
          rw [cond_eq_ite] at h
          split at h
          · rw [hnp] at h
            obtain ⟨σ', F', m', hK, hI'⟩ := canonAt_sound hO' hI h
            exact hag2 _ _ _ _ _ _ _ _ _ hI' hK
          cases draw with
          | false =>
            have h : runOps E.tt E.C ops.toList ops.toList σ (fun σ' => runS E again s k σ') = some r := h
            have hwp := runOps_sound (Qn := fun a' w' => OutS O F w m σ.boxes (fun σ' => runS E again s k σ') r a' w')
              (Q := fun e a' w' => e = .normal ∧ OutS O F w m σ.boxes (fun σ' => runS E again s k σ') r a' w') hT hC (fun _ _ h => ⟨rfl, h⟩) (List.range ops.size) ops.toList σ F m a w (range_filterMap ops).symm (fun i hi => by simpa using hi) hI.rel hO' h (fun _ _ h => h)
            obtain ⟨e, a', w', ⟨rfl, hout⟩, harr⟩ := wp_region (id := id) hwp b k cs
            obtain ⟨σ', F', m', hK, hI'⟩ := hI.out hout
            exact .steps harr (ih k σ' F' m' a' w' hI' hK)
          | true =>
            have h : runD E.tt E.C ops σ (fun σ' => canon E.np (List.range σ'.slots.length) σ' fun σ'' => runS E again s k σ'') = some r := h
            have hwp := hdr ops (fun σ' => canon E.np (List.range σ'.slots.length) σ' fun σ'' => runS E again s k σ'') r O F m σ a { w with drawn := w.drawn + 1 }
              (fun e a' w' => e = .normal ∧ OutS O F { w with drawn := w.drawn + 1 } m σ.boxes (fun σ' => canon E.np (List.range σ'.slots.length) σ' fun σ'' => runS E again s k σ'') r a' w') hI.rel.drawn hO' h fun _ _ h => ⟨rfl, h⟩
            obtain ⟨e, a', w', ⟨rfl, hout⟩, harr⟩ := wp_region_any (id := id) hmix hwp b k cs
            obtain ⟨σ', F', m', hK, hI'⟩ := hI.drawn.out hout
            rw [hnp] at hK
            obtain ⟨σ2, m2, hK2, hI2⟩ := canon_sound hI' hK
            exact .steps harr (ih k σ2 F' m2 a' w' hI2 hK2)
        | _ => cases h
      | _ => cases h
end

/-! ### rounds of loops -/
theorem run_sound [Base] {E : Nat → Env ρ} (hT : ∀ n, TTok P (E n).tt) (hC : ∀ n, Reals P (E n).C) (hO : ∀ g, w0.heap.size ≤ g → O g) (hnp : ∀ n, (E n).np = bs0.length) (hmix : P.follows .mixedOrders = true)
    (hdr : ∀ n (ops : Array Oper), DrawOK P (E n).tt (E n).C ops) (hkind : b.kind = .normal) (hfn : P.funcs[b.fn]? = some fn)
    (hfin : ∀ n F m σ a w, Inv O F0 w0 m0 bs0 F m σ a w → (E n).fin σ = some r → ∃ cv, (results fn a.tmps).run P w = .ok cv w ∧ R (.returned cv) w) :
    ∀ (n : Nat), (∀ (c : Code) (k : List Item) (σ : St) (F : Fz) (m : Nat → Value) (a : Act) (w : World), Inv O F0 w0 m0 bs0 F m σ a w → run E n (.inLoop c :: k) σ = some r → Ends P R b cs (.code c :: .inLoop c :: k) a w) ∧
      ∀ id ops d (k : List Item) (σ : St) (F : Fz) (m : Nat → Value) (a : Act) (w : World), Inv O F0 w0 m0 bs0 F m σ a w → run E n (.code (.region id ops d) :: k) σ = some r → Ends P R b cs (.code (.region id ops d) :: k) a w := by
  intro n
  induction n with
  | zero => exact ⟨fun c k σ F m a w _ h => (nomatch h), fun id ops d k σ F m a w _ h => (nomatch h)⟩
  | succ n ih =>
    refine ⟨fun c k σ F m a w hI h => ?_, fun id ops d k σ F m a w hI h => ?_⟩
    · exact runS_sound (hT n) (hC n) hO (hnp n) hmix (hdr n) hkind hfn (hfin n) ih.1 ih.2 _ _ _ _ _ _ _ hI h
    · exact runS_sound (E := (E n).nocut id) (hT n) (hC n) hO (hnp n) hmix (hdr n) hkind hfn (hfin n) ih.1 ih.2 _ _ _ _ _ _ _ hI h
end Go.Lin
end

/- Results; whole functions. -/
section
namespace Go.Lin

variable {F F' F0 : Fz} {w w' w0 : World} {m m' m0 : Nat → Value} {bs bs' bs0 : List Box} {O : Nat → Prop} {σ : St} {a : Act} {P : Program} {tt : TT} {ρ D : Type} {r : ρ} {R : Ending → World → Prop}

/-! ### results -/
def resL (tt : TT) (σ : St) : List ResultVar → Option (List V)
  | [] => some []
  | .tmp t :: r => (resL tt σ r).bind fun l => some (σ.slots.getD t .undef :: l)
  | .cell a t :: r => bif Nat.blt 0 (tt.at t).size then (σ.look (σ.slots.getD a .undef) (tt.at t).size).bind fun cs => (val (tt.at t).agg cs).bind fun v => (resL tt σ r).bind fun l => some (v :: l) else none
def V.flat : V → Bool
  | .tup _ => false
  | .fn _ _ => false
  | _ => true
def oneOf : List V → Option V
  | [v] => some v
  | vs => bif vs.all V.flat then some (.tup vs) else none

def resSem (a : Act) : ResultVar → Sem Value
  | .tmp t => pure (a.tmps.getD t undef)
  | .cell b t => do loadVar t (← asAddr (a.tmps.getD b undef))
theorem run_cell {b : Tmp} {t : TypeId} {ad : Addr} {cv : Value} (hp : a.tmps.getD b undef = .pointer (some ad)) (h : (loadVar t ad).run P w = .ok cv w) : (resSem a (.cell b t)).run P w = .ok cv w := by
  simp only [resSem, hp, asAddr, Sem.run_bind, Sem.run_pure, Result.andThen_ok, h]

theorem resL_sound [Base] (hT : TTok P tt) (hR : Rel O F m σ a w) : ∀ {rs : List ResultVar} {vs : List V}, resL tt σ rs = some vs →
    ∃ cs : List Value, (rs.mapM (m := Sem) (resSem a)).run P w = .ok cs w ∧ All2 (RV F w m σ.boxes) vs cs
  | [], vs, h => by
    simp only [resL, Option.some.injEq] at h
    subst h
    exact ⟨[], by simp [Sem.run_pure], .nil⟩
  | .tmp t :: rs, vs, h => by
    simp only [resL, Option.bind_eq_some_iff, Option.some.injEq] at h
    obtain ⟨l, hl, rfl⟩ := h
    obtain ⟨cs, hrun, hr⟩ := resL_sound hT hR hl
    have hs := hR.slots.getD t .undef undef rfl
    have he : a.tmps.toList.getD t undef = a.tmps.getD t undef := by simp [Array.getD_eq_getD_getElem?, List.getD_eq_getElem?_getD]
    rw [he] at hs
    exact ⟨a.tmps.getD t undef :: cs, by rw [List.mapM_cons]; simp only [resSem, Sem.run_bind, Sem.run_pure, Result.andThen_ok, hrun], .cons hs hr⟩
  | .cell b t :: rs, vs, h => by
    simp only [resL, cond_eq_ite] at h
    split at h
    case isFalse => cases h
    rename_i h0
    have h0 : 0 < (tt.at t).size := by simpa [Nat.blt_eq] using h0
    simp only [Option.bind_eq_some_iff, Option.some.injEq] at h
    obtain ⟨cells, hlook, v, hv, l, hl, rfl⟩ := h
    obtain ⟨cs, hrun, hr⟩ := resL_sound hT hR hl
    have hs := hR.slots.getD b .undef undef rfl
    have he : a.tmps.toList.getD b undef = a.tmps.getD b undef := by simp [Array.getD_eq_getD_getElem?, List.getD_eq_getElem?_getD]
    rw [he] at hs
    obtain ⟨ad, vals, hp, hlen, hall, hc⟩ := look_sound hR.boxes hlook hs
    obtain ⟨cv, hload, hrv⟩ := load_sound hT h0 hlen hall hc hv
    have hload : (loadVar t ad).run P w = .ok cv w := by
      simpa [Instr.loadAt, Instr.sureAddr] using hload
    refine ⟨cv :: cs, ?_, .cons hrv hr⟩
    rw [List.mapM_cons]
    simp only [Sem.run_bind, Sem.run_pure, Result.andThen_ok, run_cell hp hload, hrun]

theorem oneOf_sound [Base] {vs : List V} {cs : List Value} {v : V} (hr : All2 (RV F w m bs) vs cs) (h : oneOf vs = some v) : RV F w m bs v (if h : cs.toArray.size = 1 then cs.toArray[0] else .tuple cs.toArray) := by
  unfold oneOf at h
  split at h
  · simp only [Option.some.injEq] at h
    subst h
    obtain ⟨c, rfl, hc⟩ := hr.inv1
    simpa using hc
  · rename_i hne
    rw [cond_eq_ite] at h
    split at h
    case isFalse => cases h
    rename_i hf
    simp only [Option.some.injEq] at h
    subst h
    have hl : ¬ cs.toArray.size = 1 := by
      intro h1
      have h1 : cs.length = 1 := by simpa using h1
      rw [← hr.length] at h1
      obtain ⟨x, rfl⟩ := List.length_eq_one_iff.1 h1
      exact hne x rfl
    rw [dif_neg hl]
    refine ⟨cs.toArray, rfl, ?_⟩
    have : ∀ {vs : List V} {cs : List Value}, All2 (RV F w m bs) vs cs → vs.all V.flat = true → All2 (R2 F w m bs) vs cs := by
      intro vs cs h hf
      induction h with
      | nil => exact .nil
      | cons h _ ih =>
        simp only [List.all_cons, Bool.and_eq_true] at hf
        refine .cons ?_ (ih hf.2)
        rename_i x y _ _ _
        cases x <;> first | exact h | (simp [V.flat] at hf; done) | exact trivial
    exact this hr hf

/-- What a function answers, and what it leaves in the boxes of its params. -/
def finish (tt : TT) (np : Nat) (rs : List ResultVar) (mds : List Md) (bms : List (Option Ty)) (K : V → List Box → Option ρ) (σ : St) : Option ρ :=
  (resL tt σ rs).bind fun vs => (norms σ.boxes mds vs).bind fun p => (fixBoxes p.2 0 bms).bind fun bs2 => (oneOf p.1).bind fun v =>
    let ids := reach bs2 (idsOf (List.range np) [v])
    chk (okIds ids [v] bs2) (forceA (v.ren (idx ids)) fun v' => forceB (sub ids bs2) fun bs' => K v' bs')

/-- The function meets it: from these arguments and boxes it comes to this value and these boxes. -/
def Meets [Base] (P : Program) (g : FuncId) (args : List V) (bxs : List Box) (res : V) (bxs' : List Box) : Prop :=
  ∀ F w m (cargs : Array Value), All2 (RV F w m bxs) args cargs.toList → RBs F w m bxs → Calls P g cargs w fun e w' =>
    ∃ F' m' cv, e = .returned cv ∧ RV F' w' m' bxs' res cv ∧ RBs F' w' m' bxs' ∧ Later F F' w w' m m' bxs bxs' ∧ (∀ g, F' g → F g ∨ Own0 m bxs w g) ∧
    (∀ g, Owned m' bxs' g → Own0 m bxs w g) ∧ Keep (Own0 m bxs w) w w'

theorem Meets.post [Base] {g : FuncId} {args : List V} {bxs bxs' : List Box} {res : V} (h : Meets P g args bxs res bxs') {K : V → List Box → Option ρ} (hK : K res bxs' = some r) {F : Fz} {w : World} {m : Nat → Value} {cargs : Array Value}
    (hargs : All2 (RV F w m bxs) args cargs.toList) (hb : RBs F w m bxs) : Calls P g cargs w (Post F w m bxs K r) :=
  (h F w m cargs hargs hb).mono fun _ _ ⟨F', m', cv, he, hrv, hbs, hL, hF, ho, hk⟩ => ⟨res, bxs', F', m', cv, he, hK, hrv, hbs, hL, hF, ho, hk⟩

theorem Real.of_meets [Base] {g : FuncId} {C : Orc ρ} (h : ∀ args bxs K r, C args bxs K = some r → ∃ res bxs', K res bxs' = some r ∧ Meets P g args bxs res bxs') : Real P g C :=
  fun args bxs K r hc _ _ _ _ hargs hb => let ⟨_, _, hK, hm⟩ := h args bxs K r hc; hm.post hK hargs hb

/-- What the evaluator of a function's own calls needs. -/
structure EnvOK [Base] (P : Program) (E : Env ρ) : Prop where
  types : TTok P E.tt
  calls : Reals P E.C
  draws : ∀ ops : Array Oper, DrawOK P E.tt E.C ops

theorem finish_sound [Base] (hT : TTok P tt) {fn : Func} {rs : List ResultVar} (hrs : fn.results.toList = rs) {mds : List Md} {bms : List (Option Ty)} {K : V → List Box → Option ρ} (hO : ∀ g, w0.heap.size ≤ g → O g) (hI : Inv O F0 w0 m0 bs0 F m σ a w) (h : finish tt bs0.length rs mds bms K σ = some r) :
    ∃ res bxs' cv F' m', (results fn a.tmps).run P w = .ok cv w ∧ K res bxs' = some r ∧ RV F' w m' bxs' res cv ∧ RBs F' w m' bxs' ∧ Later F0 F' w0 w m0 m' bs0 bxs' ∧ (∀ g, F' g → F0 g ∨ O g) ∧ (∀ g, Owned m' bxs' g → O g) := by
  unfold finish at h
  simp only [Option.bind_eq_some_iff] at h
  obtain ⟨vs, hvs, ⟨vs', b0⟩, hn, b1, hn1, v, hv, h⟩ := h
  obtain ⟨hok, h⟩ := chk_some h
  rw [forceA_eq, forceB_eq] at h
  obtain ⟨cs, hrun, hr⟩ := resL_sound hT hI.rel hvs
  obtain ⟨F1, m1, hnm1, hr1⟩ := norms_sound hI.rel (fun g hg => hO g (Nat.le_trans hI.keep.size hg)) hr hn
  obtain ⟨F', m', hnm2⟩ := fixBoxes_sound (σ := ⟨σ.slots, b0⟩) hnm1.rel hn1
  have hr' := hr1.mono fun _ _ hx => hx.later hnm2.later
  have hnm := hnm1.trans hnm2
  have hone := oneOf_sound hr' hv
  obtain ⟨t, ht⟩ := reach_pre (bs := b1) bs0.length [v]
  generalize hids : reach b1 (idsOf (List.range bs0.length) [v]) = ids at h hok ht
  obtain ⟨hnd, hav, hcl, hlt⟩ := okIds_parts hok
  have hrs' := ren_sub (m := m') (bs := b1) (ids := ids)
  have hgd : ∀ b, b < bs0.length → ∃ hb : b < ids.length, ids[b] = b := by
    intro b hb
    subst ht
    exact ⟨by simp; omega, by rw [List.getElem_append_left (by simpa using hb)]; simp⟩
  have hL0 := hI.later.trans hnm.later
  refine ⟨_, _, _, F', msub ids m', ?_, h, hone.ren hrs' (hav v (by simp)), hnm.rel.boxes.sub hok, ⟨hL0.fz, hL0.blk, ?_, fun b hb => ?_, fun b hb => ?_⟩, fun g hg => ?_, fun g hg => ?_⟩
  · have hm : (fn.results.mapM (m := Sem) (resSem a)).run P w = .ok cs.toArray w := by
      rw [Array.mapM_eq_mapM_toList, hrs, Sem.run_map, hrun]
      rfl
    have he : results fn a.tmps = (do
      let vs ← fn.results.mapM (resSem a)
      pure (if h : vs.size = 1 then vs[0] else .tuple vs)) := by
      unfold results
      congr 2
    rw [he, Sem.run_bind, hm]
    simp only [Result.andThen_ok, Sem.run_pure]
  · subst ht
    simp [sub]
  · obtain ⟨hb', he⟩ := hgd b hb
    have h1 := hL0.le b hb
    rw [getD_of_get (sub_get hb'), he]
    exact le_ren_right h1
  · obtain ⟨hb', he⟩ := hgd b hb
    simp only [msub]
    rw [List.getD_eq_getElem?_getD, List.getElem?_eq_getElem hb', he]
    exact hL0.hd b hb
  · rcases hnm.fz' g hg with hg | hg
    · exact hI.fz g hg
    · exact .inr hg
  · obtain ⟨b, _, x, hx, hl, hb⟩ := Owned.sub hlt hg
    exact hnm.rel.own g ⟨b, x, hx, hl, hb⟩

/-- A function's body, evaluated. -/
def evalFn (E : Nat → Env ρ) (n : Nat) (c : Code) (ntmps : Nat) (args : List V) (bxs : List Box) : Option ρ :=
  runS (E n) (run E n) 100000 [.code c] ⟨args ++ List.replicate (ntmps - args.length) .undef, bxs⟩

theorem evalFn_sound [Base] {E : Nat → Env D} {g : FuncId} {fn : Func} {c : Code} {mds : List Md} {bms : List (Option Ty)} {K0 : V → List Box → Option D} {d : D} {n : Nat} {args : List V} {bxs bxs' : List Box} {res : V}
    (hg : P.funcs[g]? = some fn) (hb : fn.body = some c) (hE : ∀ n, EnvOK P (E n)) (hmix : P.follows .mixedOrders = true) (hnp : ∀ n, (E n).np = bxs.length)
    (hfin : ∀ n, (E n).fin = finish (E n).tt bxs.length fn.results.toList mds bms K0) (h : evalFn E n c fn.ntmps args bxs = some d)
    (hK : ∀ res' bxs'', K0 res' bxs'' = some d → res' = res ∧ bxs'' = bxs') : Meets P g args bxs res bxs' := by
  intro F w m cargs hargs hbx cs
  have hlen : args.length = cargs.size := by simpa using hargs.length
  let b : Frame := { (default : Frame) with fn := g, kind := .normal }
  let a0 : Act := { tmps := cargs ++ Array.replicate (fn.ntmps - cargs.size) undef, defers := [] }
  have henter : Frame.enter P g cargs .normal = b.at a0 [.code c] := by
    simp [Frame.enter, Frame.at, hg, hb, b, a0]
  have hI : Inv (Own0 m bxs w) F w m bxs F m ⟨args ++ List.replicate (fn.ntmps - args.length) .undef, bxs⟩ a0 w := by
    refine ⟨⟨?_, hbx, fun g hg => .inl hg, rfl⟩, .refl _ _, .refl, fun _ h => .inl h⟩
    show All2 _ _ (cargs ++ Array.replicate (fn.ntmps - cargs.size) undef).toList
    rw [Array.toList_append, Array.toList_replicate, hlen]
    refine hargs.append ?_
    generalize fn.ntmps - cargs.size = k
    induction k with
    | zero => exact .nil
    | succ k ih =>
      rw [List.replicate_succ, List.replicate_succ]
      exact .cons rfl ih
  have hO : ∀ g, w.heap.size ≤ g → Own0 m bxs w g := fun g hg => .inr hg
  have hf : ∀ n F1 m1 σ a w1, Inv (Own0 m bxs w) F w m bxs F1 m1 σ a w1 → (E n).fin σ = some d → ∃ cv, (results fn a.tmps).run P w1 = .ok cv w1 ∧
      ∃ F' m' cv', Ending.returned cv = Ending.returned cv' ∧ RV F' w1 m' bxs' res cv' ∧ RBs F' w1 m' bxs' ∧ Later F F' w w1 m m' bxs bxs' ∧ (∀ g, F' g → F g ∨ Own0 m bxs w g) ∧
        (∀ g, Owned m' bxs' g → Own0 m bxs w g) ∧ Keep (Own0 m bxs w) w w1 := by
    intro n F1 m1 σ a w1 hI1 h1
    rw [hfin n] at h1
    obtain ⟨res', bxs'', cv, F', m', hrun, hK1, hrv, hbs, hL, hF, ho⟩ := finish_sound (hE n).types rfl hO hI1 h1
    obtain ⟨rfl, rfl⟩ := hK _ _ hK1
    exact ⟨cv, hrun, F', m', cv, rfl, hrv, hbs, hL, hF, ho, hI1.keep⟩
  have hrun := run_sound (b := b) (cs := cs) (fn := fn) (R := fun e w' => ∃ F' m' cv, e = .returned cv ∧ RV F' w' m' bxs' res cv ∧ RBs F' w' m' bxs' ∧ Later F F' w w' m m' bxs bxs' ∧ (∀ g, F' g → F g ∨ Own0 m bxs w g) ∧
    (∀ g, Owned m' bxs' g → Own0 m bxs w g) ∧ Keep (Own0 m bxs w) w w') (fun n => (hE n).types) (fun n => (hE n).calls) hO hnp hmix (fun n => (hE n).draws) rfl hg hf n
  have := runS_sound (hE n).types (hE n).calls hO (hnp n) hmix (hE n).draws (b := b) (cs := cs) rfl hg (hf n) hrun.1 hrun.2 100000 [.code c] _ F m a0 w hI h
  rw [henter]
  exact this
end Go.Lin
end

/- A step speaks of what comes next in one place only. -/
section
namespace Go.Lin

variable {ρ : Type}

/-- It yields one value. -/
def NatV (f : (V → Option ρ) → Option ρ) : Prop := ∀ K r, f K = some r → ∃ v, ∀ K', f K' = K' v
/-- It yields one value, and one state. -/
def NatS (σ : St) (f : (V → St → Option ρ) → Option ρ) : Prop := ∀ K r, f K = some r → ∃ v bs, ∀ K', f K' = K' v ⟨σ.slots, bs⟩
/-- It yields one value, and leaves the state as it is. -/
def NatR (σ : St) (f : (V → St → Option ρ) → Option ρ) : Prop := ∀ K r, f K = some r → ∃ v, ∀ K', f K' = K' v σ
def NatO (C : Orc ρ) : Prop := ∀ args bxs K r, C args bxs K = some r → ∃ v bs, ∀ K', C args bxs K' = K' v bs

variable {σ : St}
theorem NatR.s {f : (V → St → Option ρ) → Option ρ} (h : NatR σ f) : NatS σ f := fun K r hk => let ⟨v, hv⟩ := h K r hk; ⟨v, σ.boxes, hv⟩
theorem NatV.r {f : (V → Option ρ) → Option ρ} (h : NatV f) : NatR σ (fun K => f fun v => K v σ) := fun _ r hk => let ⟨v, hv⟩ := h _ r hk; ⟨v, fun _ => hv _⟩

theorem NatV.ret (v : V) : NatV (ρ := ρ) (fun K => K v) := fun _ _ _ => ⟨v, fun _ => rfl⟩
theorem NatV.none : NatV (ρ := ρ) (fun _ => none) := fun _ _ h => nomatch h
theorem NatV.cond {b : Bool} {f g : (V → Option ρ) → Option ρ} (hf : NatV f) (hg : NatV g) : NatV (fun K => cond b (f K) (g K)) := by cases b <;> assumption
theorem NatV.chk [Base] {b : Bool} {f : (V → Option ρ) → Option ρ} (hf : NatV f) : NatV (fun K => chk b (f K)) := NatV.cond hf .none
theorem NatV.bind [Base] {α : Type} {x : Option α} {f : α → (V → Option ρ) → Option ρ} (hf : ∀ y, NatV (f y)) : NatV (fun K => x.bind fun y => f y K) := by
  cases x with
  | none => exact .none
  | some y => exact hf y

theorem NatR.ret (v : V) : NatR (ρ := ρ) σ (fun K => K v σ) := fun _ _ _ => ⟨v, fun _ => rfl⟩
theorem NatR.none : NatR (ρ := ρ) σ (fun _ => none) := fun _ _ h => nomatch h
theorem NatR.cond {b : Bool} {f g : (V → St → Option ρ) → Option ρ} (hf : NatR σ f) (hg : NatR σ g) : NatR σ (fun K => cond b (f K) (g K)) := by cases b <;> assumption
theorem NatR.chk [Base] {b : Bool} {f : (V → St → Option ρ) → Option ρ} (hf : NatR σ f) : NatR σ (fun K => chk b (f K)) := NatR.cond hf .none
theorem NatR.bind [Base] {α : Type} {x : Option α} {f : α → (V → St → Option ρ) → Option ρ} (hf : ∀ y, NatR σ (f y)) : NatR σ (fun K => x.bind fun y => f y K) := by
  cases x with
  | none => exact .none
  | some y => exact hf y

theorem NatS.ret (v : V) (bs : List Box) : NatS (ρ := ρ) σ (fun K => K v ⟨σ.slots, bs⟩) := fun _ _ _ => ⟨v, bs, fun _ => rfl⟩
theorem NatS.none : NatS (ρ := ρ) σ (fun _ => none) := fun _ _ h => nomatch h
theorem NatS.cond {b : Bool} {f g : (V → St → Option ρ) → Option ρ} (hf : NatS σ f) (hg : NatS σ g) : NatS σ (fun K => cond b (f K) (g K)) := by cases b <;> assumption
theorem NatS.chk [Base] {b : Bool} {f : (V → St → Option ρ) → Option ρ} (hf : NatS σ f) : NatS σ (fun K => chk b (f K)) := NatS.cond hf .none
theorem NatS.bind [Base] {α : Type} {x : Option α} {f : α → (V → St → Option ρ) → Option ρ} (hf : ∀ y, NatS σ (f y)) : NatS σ (fun K => x.bind fun y => f y K) := by
  cases x with
  | none => exact .none
  | some y => exact hf y

/-! ### the operations that only compute -/
theorem nat_arith [Base] {op : BinOp} {k : IntKind} {x y : Int} : NatV (ρ := ρ) (arith op k x y) := by
  cases op <;> first | exact NatV.ret _ | exact NatV.chk (NatV.ret _) | exact NatV.none
theorem nat_shift [Base] {op : BinOp} {k : IntKind} {x y : Int} : NatV (ρ := ρ) (shift op k x y) := by
  cases op <;> first | exact NatV.chk (NatV.ret _) | exact NatV.none
theorem nat_text [Base] {op : BinOp} {x y : ByteArray} : NatV (ρ := ρ) (text op x y) := by
  cases op <;> first | exact NatV.ret _ | exact NatV.chk (NatV.ret _) | exact NatV.none
theorem nat_binop [Base] {b : Bool} {op : BinOp} {x y : V} : NatV (ρ := ρ) (binop b op x y) := by
  unfold binop
  split
  · exact nat_shift
  · exact nat_shift
  · exact NatV.cond nat_arith .none
  · exact nat_text
  · exact NatV.cond (.ret _) .none
  · exact NatV.cond (.ret _) .none
  · exact .none
theorem nat_unop [Base] {op : UnOp} {x : V} : NatV (ρ := ρ) (unop op x) := by
  unfold unop
  split
  · exact .ret _
  · exact .ret _
  · exact .none
theorem nat_pick2 [Base] {t : Bool} {x y : V} : NatV (ρ := ρ) (pick2 t x y) := by
  unfold pick2
  split
  · exact .ret _
  · exact NatV.cond (.ret _) (.cond (.ret _) (.ret _))
  · exact .cond (.ret _) (.ret _)

variable {tt : TT} {C : FuncId → List Md × Orc ρ} {o : Oper}

theorem nat_nil [Base] {x : Operand} : NatR (ρ := ρ) σ (fun K => stepNil σ K x) := by
  unfold stepNil
  split
  · exact .ret _
  · split
    · exact .ret _
    · exact .ret _
    · exact .none
  · exact .ret _
  · exact .ret _
  · exact .none
theorem nat_convert [Base] {s d : TypeId} {x : V} : NatR (ρ := ρ) σ (fun K => convertTo tt s d x σ K) := by
  unfold convertTo
  split
  · exact .ret _
  · exact .ret _
  · exact .ret _
  · split
    · exact .bind fun _ => .ret _
    · exact .none
  · exact .none
theorem nat_index [Base] {sz : Nat} {x : V} {i : Int} : NatR (ρ := ρ) σ (fun K => indexC sz x i σ K) := by
  unfold indexC
  split
  · exact .cond (.chk (.chk (.ret _))) .none
  · split
    · exact .cond (.chk (.chk (.ret _))) .none
    · exact .cond (.chk (.chk (.ret _))) .none
    · exact .none
  · exact .none
theorem nat_builtin [Base] {b : Builtin} {ts : List TypeId} {xs : List V} (h : b ≠ .append) : NatR (ρ := ρ) σ (fun K => builtinC tt b ts xs σ K) := by
  unfold builtinC
  split
  · exact .bind fun _ => .cond (.ret _) .none
  · exact absurd rfl h
  · exact .cond (.ret _) .none
  · exact .cond (.ret _) .none
  · exact .none
theorem nat_read [Base] (h : readOnly o.op = true) : NatR (ρ := ρ) σ (fun K => step tt C o σ K) := by
  unfold step
  cases ho : o.op <;> rw [ho] at h <;> try (cases h; done)
  · exact .ret _
  · exact .ret _
  · unfold stepPick
    dsimp only
    split
    · exact NatV.r nat_pick2
    · exact .none
  · unfold stepBuild
    dsimp only
    split
    · exact .bind fun _ => .bind fun _ => .ret _
    · exact .none
  · unfold stepLoad
    exact .cond (.bind fun _ => .bind fun _ => .ret _) .none
  · exact nat_nil
  · exact NatV.r nat_binop
  · exact NatV.r nat_unop
  · exact nat_convert
  · unfold stepFunc
    dsimp only
    split
    · exact .cond (.ret _) .none
    · exact .none
  · unfold stepFieldAddr
    dsimp only
    split
    · exact .bind fun _ => .bind fun _ => .ret _
    · exact .none
  · unfold stepField
    dsimp only
    split
    · exact .bind fun _ => .bind fun _ => .cond (.bind fun _ => .bind fun _ => .ret _) .none
    · exact .none
  · unfold stepIndexAddr
    dsimp only
    split
    · exact nat_index
    · exact .none
  · unfold stepIndex
    dsimp only
    split
    · exact .chk (.chk (.ret _))
    · exact .none
  · unfold stepExtract
    dsimp only
    split
    · exact .bind fun _ => .ret _
    · exact .none
  · rename_i c
    unfold stepCall
    dsimp only [readOnly] at h ⊢
    split at h
    · rename_i hc
      rw [hc]
      exact nat_builtin (by simp)
    · rename_i hc
      rw [hc]
      exact nat_builtin (by simp)
    · rename_i hc
      rw [hc]
      exact nat_builtin (by simp)
    · cases h

/-! ### the others -/
theorem nat_append [Base] {ts tx : TypeId} {s x : V} : NatS (ρ := ρ) σ (fun K => appendC tt ts tx s x σ K) := by
  unfold appendC
  split
  · refine .bind fun _ => .chk (.bind fun _ => ?_)
    split
    · exact .chk (.ret _ _)
    · split
      · split
        · exact .chk (.ret _ _)
        · exact .none
      · exact .none
    · exact .none
  · exact .none
theorem nat_builtin_s [Base] {b : Builtin} {ts : List TypeId} {xs : List V} : NatS (ρ := ρ) σ (fun K => builtinC tt b ts xs σ K) := by
  unfold builtinC
  split
  · exact NatR.s (.bind fun _ => .cond (.ret _) .none)
  · exact nat_append
  · exact NatR.s (.cond (.ret _) .none)
  · exact NatR.s (.cond (.ret _) .none)
  · exact .none
theorem nat_cut [Base] {t : TypeId} {x : V} {lo hi : Option V} : NatS (ρ := ρ) σ (fun K => cutC tt t x lo hi σ K) := by
  unfold cutC
  refine .bind fun _ => .bind fun _ => .bind fun _ => .chk (.chk (.chk (.chk ?_)))
  split
  · exact .ret _ σ.boxes
  · exact .cond (.ret _ σ.boxes) .none
  · exact .ret _ σ.boxes
  · split
    · exact .cond (.ret _ _) .none
    · exact .cond (.ret _ _) .none
    · exact .cond (.ret _ σ.boxes) .none
    · exact .none
  · exact .none

theorem nat_callX [Base] {C : Orc ρ} (hC : NatO C) {args : List V} {bs : List Box} : NatS σ (fun K => callX C args ⟨σ.slots, bs⟩ K) := by
  unfold callX
  refine NatS.chk ?_
  intro K r h
  obtain ⟨v, bs', hv⟩ := hC _ _ _ _ h
  exact ⟨v.ren (back (reach bs (idsOf [] args)) bs.length), setAll bs (reach bs (idsOf [] args)) (bs'.map (Box.ren (back (reach bs (idsOf [] args)) bs.length))) ++ (bs'.map (Box.ren (back (reach bs (idsOf [] args)) bs.length))).drop (reach bs (idsOf [] args)).length, fun K' => hv _⟩
theorem nat_callC [Base] (hC : ∀ g, NatO (C g).2) {g : FuncId} {args : List V} : NatS σ (fun K => callC C g args σ K) := by
  unfold callC
  rcases norms σ.boxes (C g).1 args with _ | p
  · exact .none
  · exact nat_callX (hC g)

theorem St.store_slots {p : V} {vs : List V} {σ' : St} (h : σ.store p vs = some σ') : σ'.slots = σ.slots := by
  unfold St.store at h
  split at h
  · split at h
    · simp only [Option.bind_eq_some_iff, Option.some.injEq] at h
      obtain ⟨_, _, rfl⟩ := h
      rfl
    · cases h
  · split at h
    · simp only [Option.bind_eq_some_iff, Option.some.injEq] at h
      obtain ⟨_, _, _, _, rfl⟩ := h
      rfl
    · cases h
  · cases h
theorem nat_put [Base] {x : Option St} (hx : ∀ σ', x = some σ' → σ'.slots = σ.slots) : NatS (ρ := ρ) σ (fun K => x.bind fun σ' => K .undef σ') := by
  cases x with
  | none => exact .none
  | some σ' =>
    have := hx σ' rfl
    obtain ⟨sl, bs⟩ := σ'
    dsimp only at this
    subst this
    exact .ret _ _

theorem nat_step [Base] (hC : ∀ g, NatO (C g).2) : NatS (ρ := ρ) σ (fun K => step tt C o σ K) := by
  cases ho : o.op with
  | alloc t =>
    have he : (fun K => step tt C o σ K) = fun K => stepAlloc tt σ K t := by funext K; unfold step; rw [ho]
    rw [he]
    unfold stepAlloc
    exact .bind fun _ => .ret _ _
  | box t x =>
    have he : (fun K => step tt C o σ K) = fun K => stepBox tt σ K t x := by funext K; unfold step; rw [ho]
    rw [he]
    unfold stepBox
    exact .cond (.ret _ _) .none
  | buildSlice t n ps =>
    have he : (fun K => step tt C o σ K) = fun K => stepBuildSlice tt σ K t n ps := by funext K; unfold step; rw [ho]
    rw [he]
    unfold stepBuildSlice
    split
    · exact .bind fun _ => .bind fun _ => .bind fun _ => .chk (.ret _ _)
    · exact .none
  | store t x y =>
    have he : (fun K => step tt C o σ K) = fun K => stepStore tt σ K t x y := by funext K; unfold step; rw [ho]
    rw [he]
    unfold stepStore
    refine .cond ?_ .none
    split
    · exact nat_put fun σ' h => by have := St.store_slots h; exact this
    · exact nat_put fun σ' h => St.store_slots h
  | makeSlice t l c =>
    have he : (fun K => step tt C o σ K) = fun K => stepMake tt σ K t l c := by funext K; unfold step; rw [ho]
    rw [he]
    unfold stepMake
    split
    · exact .bind fun _ => .chk (.chk (.chk (.ret _ _)))
    · exact .none
  | slice t x lo hi mx =>
    have he : (fun K => step tt C o σ K) = fun K => stepSlice tt σ K t x lo hi mx := by funext K; unfold step; rw [ho]
    rw [he]
    unfold stepSlice
    split
    · exact nat_cut
    · exact .none
  | call c =>
    have he : (fun K => step tt C o σ K) = fun K => stepCall tt C σ K c := by funext K; unfold step; rw [ho]
    rw [he]
    unfold stepCall
    split
    · rename_i b hb
      exact nat_builtin_s
    · unfold stepFn
      split
      · exact nat_callC hC
      · exact .none
    · exact .none
  | _ =>
    first
      | exact (nat_read (by rw [ho]; rfl)).s
      | (have he : (fun K => step tt C o σ K) = fun _ => none := by funext K; unfold step; rw [ho]
         rw [he]
         exact .none)
end Go.Lin
end

/- Regions whose operations may come in several orders: values. -/
section
namespace Go.Lin

variable {ρ : Type} {σ σ2 : St} {tt : TT} {C : FuncId → List Md × Orc ρ} {o : Oper} {ops : Array Oper} {q : Nat} {v : V} {bs : List Box}

theorem keepAt_get {α : Type} (p : List Nat) (d : α) (l : List α) (i : Nat) : (keepAt p d l)[i]? = l[i]?.map fun x => bif p.contains i then x else d := by
  simp [keepAt, Option.map_map, Function.comp_def]
theorem over_get (p : List Nat) (new old : List Box) (i : Nat) : (over p new old)[i]? = old[i]?.map fun x => bif p.contains i then new.getD i .dead else x := by
  simp [over, Option.map_map, Function.comp_def]
theorem keepAt_len {α : Type} (p : List Nat) (d : α) (l : List α) : (keepAt p d l).length = l.length := by simp [keepAt]
theorem over_len (p : List Nat) (new old : List Box) : (over p new old).length = old.length := by simp [over]
theorem keepAt_congr [Base] {α : Type} {p : List Nat} {d : α} {l l' : List α} (hl : l.length = l'.length) (h : ∀ i, i ∈ p → l[i]? = l'[i]?) : keepAt p d l = keepAt p d l' := by
  apply List.ext_getElem?
  intro i
  rw [keepAt_get, keepAt_get]
  by_cases hi : i ∈ p
  · rw [h i hi]
  · have : p.contains i = false := by simpa using hi
    simp only [this, cond_false]
    rcases Nat.lt_or_ge i l.length with hlt | hge
    · rw [List.getElem?_eq_getElem hlt, List.getElem?_eq_getElem (hl ▸ hlt)]; rfl
    · rw [List.getElem?_eq_none hge, List.getElem?_eq_none (hl ▸ hge)]

structure DoesL (tt : TT) (C : FuncId → List Md × Orc ρ) (ops : Array Oper) (q : Nat) (o : Oper) (σ : St) (v : V) (bs : List Box) : Prop where
  free : (!(fpOf o σ).contains q && (!(fpOf o σ).contains σ.boxes.length && (σ.box q).isDead)) = true
  does : ∃ v1 bs1, (∀ K : V → St → Option ρ, step tt C o ⟨keepAt (o.looksAt ops) .junk σ.slots, keepAt (fpOf o σ) .dead σ.boxes⟩ K = K v1 ⟨keepAt (o.looksAt ops) .junk σ.slots, bs1⟩) ∧ outL q o σ v1 bs1 = some (v, bs)

theorem local_does [Base] (hC : ∀ g, NatO (C g).2) {K : V → St → Option ρ} {r : ρ} (h : local_ tt C ops q o σ K = some r) : ∃ v bs, DoesL tt C ops q o σ v bs ∧ K v ⟨σ.slots, bs⟩ = some r := by
  unfold local_ at h
  obtain ⟨hfree, h⟩ := chk_some h
  obtain ⟨v1, bs1, hs0⟩ := nat_step hC _ _ h
  have hs : ∀ K : V → St → Option ρ, step tt C o ⟨keepAt (o.looksAt ops) .junk σ.slots, keepAt (fpOf o σ) .dead σ.boxes⟩ K = K v1 ⟨keepAt (o.looksAt ops) .junk σ.slots, bs1⟩ := hs0
  rw [hs] at h
  simp only [Option.bind_eq_some_iff] at h
  obtain ⟨⟨v, bs⟩, ho, hk⟩ := h
  exact ⟨v, bs, ⟨hfree, v1, bs1, hs, ho⟩, hk⟩

/-- What two states have in common that an operation may look at. -/
structure Agree (ops : Array Oper) (q : Nat) (o : Oper) (σ σ2 : St) : Prop where
  slots : ∀ d, d ∈ o.looksAt ops → σ2.slots[d]? = σ.slots[d]?
  boxes : ∀ b, b ∈ q :: fpOf o σ → σ2.boxes[b]? = σ.boxes[b]?
  nslots : σ2.slots.length = σ.slots.length
  nboxes : σ2.boxes.length = σ.boxes.length

theorem Agree.ev (h : Agree ops q o σ σ2) {x : Operand} (hx : x ∈ o.op.operands.toList) : σ2.ev x = σ.ev x := by
  cases x with
  | tmp t =>
    have hm : t ∈ o.looksAt ops := List.mem_append_left _ (List.mem_filterMap.2 ⟨.tmp t, hx, rfl⟩)
    show σ2.slots.getD t .undef = σ.slots.getD t .undef
    rw [List.getD_eq_getElem?_getD, List.getD_eq_getElem?_getD, h.slots t hm]
  | _ => rfl
theorem Agree.fp [Base] (h : Agree ops q o σ σ2) : fpOf o σ2 = fpOf o σ := by
  have h1 : o.op.operands.toList.map σ2.ev = o.op.operands.toList.map σ.ev := List.map_congr_left fun x hx => h.ev hx
  unfold fpOf
  rw [h1]
  have h2 : ∀ b ∈ idsOf [] (o.op.operands.toList.map σ.ev), σ2.boxes.getD b .dead = σ.boxes.getD b .dead := by
    intro b hb
    obtain ⟨t, ht⟩ := foldl_pre ((idsOf [] (o.op.operands.toList.map σ.ev)).flatMap fun b => (σ.boxes.getD b .dead).ids) (idsOf [] (o.op.operands.toList.map σ.ev))
    have hm : b ∈ fpOf o σ := by
      show b ∈ reach _ _
      unfold reach
      rw [ht]
      exact List.mem_append_left _ hb
    rw [List.getD_eq_getElem?_getD, List.getD_eq_getElem?_getD, h.boxes b (by simp [hm])]
  unfold reach
  have h3 : (idsOf [] (o.op.operands.toList.map σ.ev)).flatMap (fun b => (σ2.boxes.getD b .dead).ids) = (idsOf [] (o.op.operands.toList.map σ.ev)).flatMap fun b => (σ.boxes.getD b .dead).ids := by
    rw [List.flatMap_def, List.flatMap_def]
    congr 1
    exact List.map_congr_left fun b hb => by rw [h2 b hb]
  rw [h3]
theorem Agree.masked [Base] (h : Agree ops q o σ σ2) : (⟨keepAt (o.looksAt ops) .junk σ2.slots, keepAt (fpOf o σ2) .dead σ2.boxes⟩ : St) = ⟨keepAt (o.looksAt ops) .junk σ.slots, keepAt (fpOf o σ) .dead σ.boxes⟩ := by
  rw [h.fp]
  congr 1
  · exact keepAt_congr h.nslots h.slots
  · exact keepAt_congr h.nboxes fun b hb => h.boxes b (by simp [hb])

theorem over_over [Base] {p : List Nat} {X a b : List Box} (hl : a.length = b.length) : over p (over p X a) b = over p X b := by
  apply List.ext_getElem?
  intro i
  rw [over_get, over_get]
  rcases Nat.lt_or_ge i b.length with hlt | hge
  · rw [List.getElem?_eq_getElem hlt]
    simp only [Option.map_some]
    congr 1
    cases hp : p.contains i
    · rfl
    · simp only [cond_true]
      rw [List.getD_eq_getElem?_getD, over_get, List.getElem?_eq_getElem (hl ▸ hlt : i < a.length)]
      rw [hp]
      rfl
  · rw [List.getElem?_eq_none hge]; rfl
theorem over_none [Base] {X b : List Box} : over [] X b = b := by
  apply List.ext_getElem?
  intro i
  rw [over_get]
  cases b[i]? <;> rfl
theorem over_self [Base] {p : List Nat} {b : List Box} : over p b b = b := by
  apply List.ext_getElem?
  intro i
  rw [over_get]
  cases h : b[i]? with
  | none => rfl
  | some x =>
    simp only [Option.map_some]
    rw [List.getD_eq_getElem?_getD, h]
    cases p.contains i <;> rfl

/-- It does the same wherever it sees the same. -/
theorem DoesL.frame [Base] (hd : DoesL tt C ops q o σ v bs) (h : Agree ops q o σ σ2) : DoesL tt C ops q o σ2 v (over (wOf q o σ) bs σ2.boxes) := by
  obtain ⟨hfree, v1, bs1, hs, ho⟩ := hd
  have hq : σ2.box q = σ.box q := by
    show σ2.boxes.getD q .dead = σ.boxes.getD q .dead
    rw [List.getD_eq_getElem?_getD, List.getD_eq_getElem?_getD, h.boxes q (by simp)]
  refine ⟨by rw [h.fp, hq, h.nboxes]; exact hfree, v1, bs1, ?_, ?_⟩
  · have hm := h.masked
    rw [hm]
    intro K
    rw [hs K]
    congr 2
    injection hm with h1 h2
    exact h1.symm
  · have hmb : keepAt (fpOf o σ) .dead σ2.boxes = keepAt (fpOf o σ) .dead σ.boxes := keepAt_congr h.nboxes fun b hb => h.boxes b (by simp [hb])
    unfold outL wOf at *
    rw [h.fp, h.nboxes, hmb]
    cases hr : readOnly o.op with
    | true =>
      rw [hr] at ho
      dsimp only at ho ⊢
      rw [cond_eq_ite] at ho
      split at ho
      case isFalse => cases ho
      rename_i hc
      rw [hc]
      simp only [Option.some.injEq, Prod.mk.injEq] at ho
      obtain ⟨rfl, rfl⟩ := ho
      simp only [cond_true]
      rw [over_none]
    | false =>
      rw [hr] at ho
      dsimp only at ho ⊢
      rw [cond_eq_ite] at ho
      split at ho
      case isFalse => cases ho
      rename_i hc
      rw [hc]
      simp only [Option.some.injEq, Prod.mk.injEq] at ho
      obtain ⟨rfl, rfl⟩ := ho
      simp only [cond_true, cond_false]
      rw [over_over h.nboxes.symm]

/-- It leaves the rest as it is. -/
theorem DoesL.rest [Base] (hd : DoesL tt C ops q o σ v bs) : bs = over (wOf q o σ) bs σ.boxes := by
  obtain ⟨hfree, v1, bs1, hs, ho⟩ := hd
  unfold outL wOf at *
  cases hr : readOnly o.op with
  | true =>
    rw [hr] at ho
    dsimp only at ho
    rw [cond_eq_ite] at ho
    split at ho
    case isFalse => cases ho
    simp only [Option.some.injEq, Prod.mk.injEq] at ho
    obtain ⟨rfl, rfl⟩ := ho
    simp only [cond_true]
    rw [over_none]
  | false =>
    rw [hr] at ho
    dsimp only at ho
    rw [cond_eq_ite] at ho
    split at ho
    case isFalse => cases ho
    simp only [Option.some.injEq, Prod.mk.injEq] at ho
    obtain ⟨rfl, rfl⟩ := ho
    simp only [cond_false]
    rw [over_over rfl]
theorem DoesL.len [Base] (hd : DoesL tt C ops q o σ v bs) : bs.length = σ.boxes.length := by
  rw [hd.rest, over_len]
theorem DoesL.out [Base] (hd : DoesL tt C ops q o σ v bs) {b : Nat} (hb : b ∉ wOf q o σ) : bs[b]? = σ.boxes[b]? := by
  rw [hd.rest, over_get]
  have : (wOf q o σ).contains b = false := by simpa using hb
  rw [this]
  cases σ.boxes[b]? <;> rfl
end Go.Lin
end

/- An operation on a masked state, seen from outside. -/
section
namespace Go.Lin

variable {F F' F1 : Fz} {w w' : World} {m m' m1 : Nat → Value} {bs bs' bs1 : List Box} {O Om : Nat → Prop} {σ : St} {a : Act} {P : Program} {tt : TT} {ρ : Type} {o : Oper} {ops : Array Oper} {q : Nat} {next : Act → World → Prop} {Q : Exit → Act → World → Prop}

theorem V.ren1_same {f : Nat → Nat} {v : V} (h : ∀ i ∈ v.id1, f i = i) : v.ren1 f = v := by
  cases v with
  | own b => rw [V.ren1, h b (by simp [V.id1])]
  | ptr b off => rw [V.ren1, h b (by simp [V.id1])]
  | ep b i off => rw [V.ren1, h b (by simp [V.id1])]
  | _ => rfl
theorem V.ren1_all [Base] {f : Nat → Nat} {cs : List V} (h : ∀ i ∈ cs.flatMap V.id1, f i = i) : cs.map (V.ren1 f) = cs := by
  induction cs with
  | nil => rfl
  | cons c cs ih =>
    rw [List.map_cons, V.ren1_same fun i hi => h i (by simp [hi]), ih fun i hi => h i (by simp only [List.flatMap_cons, List.mem_append]; exact .inr hi)]
theorem V.ren2_same [Base] {f : Nat → Nat} {v : V} (h : ∀ i ∈ (match v with | .agg cs => cs.flatMap V.id1 | .fn _ cs => cs.flatMap V.id1 | v => v.id1), f i = i) : v.ren2 f = v := by
  cases v with
  | agg cs => rw [V.ren2, V.ren1_all h]
  | fn g cs => rw [V.ren2, V.ren1_all h]
  | own b => exact V.ren1_same (v := .own b) h
  | ptr b off => exact V.ren1_same (v := .ptr b off) h
  | ep b i off => exact V.ren1_same (v := .ep b i off) h
  | _ => rfl
theorem V.tup_ids {vs : List V} {v : V} (hv : v ∈ vs) {i : Nat} (hi : i ∈ (match v with | .agg cs => cs.flatMap V.id1 | v => v.id1)) : i ∈ (V.tup vs).ids := List.mem_flatMap.2 ⟨v, hv, hi⟩
/-- No function lies in a tuple. -/
def V.plain : V → Bool
  | .tup vs => vs.all V.flat
  | _ => true
theorem V.ren_same [Base] {f : Nat → Nat} {v : V} (hp : v.plain = true) (h : ∀ i ∈ v.ids, f i = i) : v.ren f = v := by
  cases v with
  | tup vs =>
    have hp : ∀ x ∈ vs, x.flat = true := by simpa [V.plain] using hp
    have : vs.map (V.ren2 f) = vs := by
      have : ∀ x ∈ vs, x.ren2 f = x := by
        intro x hx
        refine V.ren2_same fun i hi => ?_
        have hfl := hp x hx
        refine h i (V.tup_ids hx ?_)
        cases x <;> first | exact hi | (simp [V.flat] at hfl; done)
      conv => rhs; rw [← List.map_id vs]
      exact List.map_congr_left this
    rw [V.ren, this]
  | agg cs => exact V.ren2_same (v := .agg cs) h
  | fn g cs => exact V.ren2_same (v := .fn g cs) h
  | own b => exact V.ren2_same (v := .own b) h
  | ptr b off => exact V.ren2_same (v := .ptr b off) h
  | ep b i off => exact V.ren2_same (v := .ep b i off) h
  | _ => rfl

theorem R2.flat {v : V} {c : Value} (h : R2 F w m bs v c) : v.flat = true := by cases v <;> first | rfl | exact h.elim
theorem RV.plain [Base] {v : V} {c : Value} (h : RV F w m bs v c) : v.plain = true := by
  cases v with
  | tup vs =>
    obtain ⟨cs, rfl, hh⟩ := h
    have : ∀ {vs : List V} {cs : List Value}, All2 (R2 F w m bs) vs cs → vs.all V.flat = true := by
      intro vs cs h
      induction h with
      | nil => rfl
      | cons h _ ih => simp [h.flat, ih]
    exact this hh
  | _ => rfl
theorem RL.plain {v : V} {c : Value} (h : RL F w m bs v c) : v.plain = true := by cases v <;> first | rfl | exact h.elim

theorem Box.ren_same [Base] {f : Nat → Nat} {b : Nat} {x : Box} (h : RB F w m bs b x) (hi : ∀ i ∈ x.ids, f i = i) : x.ren f = x := by
  cases x with
  | cells t cs =>
    obtain ⟨g, arr, _, _, hall, _⟩ := h
    rw [Box.ren]
    congr 1
    have : ∀ v ∈ cs, v.ren f = v := by
      intro v hv
      obtain ⟨i, hlt, rfl⟩ := List.mem_iff_getElem.1 hv
      have hr : ∃ c, RL F w m bs cs[i] c := by
        have : ∀ {cs : List V} {l : List Value} {i : Nat} (h : i < cs.length), All2 (RL F w m bs) cs l → ∃ c, RL F w m bs cs[i] c := by
          intro cs l i hi h
          induction h generalizing i with
          | nil => simp at hi
          | cons h _ ih =>
            cases i with
            | zero => exact ⟨_, h⟩
            | succ i => exact ih (by simpa using hi)
        exact this hlt hall
      obtain ⟨c, hc⟩ := hr
      exact V.ren_same hc.plain fun i hi' => hi i (List.mem_flatMap.2 ⟨_, hv, hi'⟩)
    conv => rhs; rw [← List.map_id cs]
    exact List.map_congr_left this
  | _ => rfl

/-! ### a box that nothing leads to may be anything -/
theorem Ren.off {h : Value} {x : Box} (hid : ∀ (b : Nat) y, bs[b]? = some y → y.ren id = y) : Ren (· ≠ q) id m bs (upd m q h) (bs.set q x) := by
  intro i hi hlt
  refine ⟨by simpa using hlt, by simp [upd, hi], ?_⟩
  have h1 : bs[i]? = some (bs.getD i .dead) := by simp [List.getD_eq_getElem?_getD, hlt]
  rw [hid i _ h1, id, List.getD_eq_getElem?_getD, List.getElem?_set_ne (Ne.symm hi), ← List.getD_eq_getElem?_getD]
theorem RBs.ids [Base] (h : RBs F w m bs) : ∀ (b : Nat) y, bs[b]? = some y → y.ren id = y := fun b _ hy => Box.ren_same (h.box b _ hy) fun _ _ => rfl
theorem RV.off [Base] {h : Value} {x : Box} {v : V} {c : Value} (hb : RBs F w m bs) (hr : RV F w m bs v c) (hv : ∀ i ∈ v.ids, i ≠ q) : RV F w (upd m q h) (bs.set q x) v c := by
  have := RV.ren (Ren.off (q := q) (h := h) (x := x) hb.ids) hr hv
  rwa [V.ren_same (f := id) hr.plain fun _ _ => rfl] at this
theorem RB.off [Base] {h : Value} {x y : Box} {b : Nat} (hb : RBs F w m bs) (hr : RB F w m bs b y) (hne : b ≠ q) (hv : ∀ i ∈ y.ids, i ≠ q) : RB F w (upd m q h) (bs.set q x) b y := by
  have := RB.ren (Ren.off (q := q) (h := h) (x := x) hb.ids) hr (by simp [upd, hne]) hv
  rwa [Box.ren_same (f := id) hr fun _ _ => rfl] at this

/-! ### what a masked state's steps come to -/
theorem unmask [Base] {fp : List Nat} {v1 : V} {cv : Value} (hR : Rel O F m σ a w) (hO : ∀ g, w.heap.size ≤ g → O g)
    (hq : q < σ.boxes.length) (hqf : q ∉ fp) (hLf : σ.boxes.length ∉ fp)
    (hns : ∀ s ∈ σ.slots, ∀ i ∈ s.ids, i ≠ q) (hnb : ∀ (b : Nat) x, σ.boxes[b]? = some x → ∀ i ∈ x.ids, i ≠ q)
    (hOm : ∀ g, Om g → Owned m (keepAt fp .dead σ.boxes) g ∨ w.heap.size ≤ g)
    (h1 : RBs F1 w' m1 bs1) (hown : ∀ g, Owned m1 bs1 g → Om g) (hv : RV F1 w' m1 bs1 v1 cv) (hk : Keep Om w w') (hL : Later F F1 w w' m m1 (keepAt fp .dead σ.boxes) bs1) (hF : ∀ g, F1 g → F g ∨ Om g)
    (hlen : bs1.length ≤ σ.boxes.length + 1) (hids : ∀ i ∈ v1.ids ++ bs1.flatMap Box.ids, i ∈ fp ∨ i = σ.boxes.length) :
    ∃ M, Rel O F1 M ⟨σ.slots, over (q :: fp) ((bs1.map (Box.ren (swapTo σ.boxes.length q))).set q ((bs1.getD σ.boxes.length .dead).ren (swapTo σ.boxes.length q))) σ.boxes⟩ a w' ∧
      RV F1 w' M (over (q :: fp) ((bs1.map (Box.ren (swapTo σ.boxes.length q))).set q ((bs1.getD σ.boxes.length .dead).ren (swapTo σ.boxes.length q))) σ.boxes) (v1.ren (swapTo σ.boxes.length q)) cv ∧ Keep O w w' ∧ (∀ g, F1 g → F g ∨ O g) ∧
      ∀ b, b < σ.boxes.length → b ≠ q → Box.le (σ.boxes.getD b .dead) ((over (q :: fp) ((bs1.map (Box.ren (swapTo σ.boxes.length q))).set q ((bs1.getD σ.boxes.length .dead).ren (swapTo σ.boxes.length q))) σ.boxes).getD b .dead) ∧ M b = m b := by
  generalize hn : σ.boxes.length = n at *
  generalize hBS : over (q :: fp) ((bs1.map (Box.ren (swapTo n q))).set q ((bs1.getD n .dead).ren (swapTo n q))) σ.boxes = BS
  have hnl : n ≤ bs1.length := by have := hL.len; rwa [keepAt_len, hn] at this
  let M : Nat → Value := fun b => if b = q then m1 n else m b
  have hBl : BS.length = n := by rw [← hBS, over_len, hn]
  have hout : ∀ b, b ≠ q → b ∉ fp → BS[b]? = σ.boxes[b]? := by
    intro b hb hf
    rw [← hBS, over_get]
    have : (q :: fp).contains b = false := by simp [hb, hf]
    rw [this]
    cases σ.boxes[b]? <;> rfl
  have hin : ∀ b, b ∈ fp → b < n → BS[b]? = some ((bs1.getD b .dead).ren (swapTo n q)) := by
    intro b hf hb
    have hbq : b ≠ q := fun e => hqf (e ▸ hf)
    have : (q :: fp).contains b = true := by simp [hf]
    have hb1 : b < bs1.length := by omega
    rw [← hBS, over_get, this, List.getElem?_eq_getElem (by rw [hn]; exact hb : b < σ.boxes.length)]
    simp only [Option.map_some, cond_true]
    rw [List.getD_eq_getElem?_getD, List.getElem?_set_ne (Ne.symm hbq)]
    simp [hb1]
  have hatq : BS[q]? = some ((bs1.getD n .dead).ren (swapTo n q)) := by
    have : (q :: fp).contains q = true := by simp
    rw [← hBS, over_get, this, List.getElem?_eq_getElem (by rw [hn]; exact hq : q < σ.boxes.length)]
    simp only [Option.map_some, cond_true]
    rw [List.getD_eq_getElem?_getD, List.getElem?_set_self (by simp; omega)]
    rfl
  have hsw : ∀ i, i ≠ n → swapTo n q i = i := by
    intro i hi
    have : Nat.beq i n = false := by
      cases h : Nat.beq i n
      · rfl
      · exact absurd (Nat.eq_of_beq_eq_true h) hi
    simp [swapTo, this]
  have hswn : swapTo n q n = q := by simp [swapTo]
  have hren : Ren (fun i => i ∈ fp ∨ i = n) (swapTo n q) m1 bs1 M BS := by
    rintro i (hi | rfl) hlt
    · have hin' : i ≠ n := fun e => hLf (e ▸ hi)
      have hil : i < n := by omega
      have hiq : i ≠ q := fun e => hqf (e ▸ hi)
      rw [hsw i hin']
      refine ⟨by omega, ?_, getD_of_get (hin i hi hil)⟩
      simp only [M, hiq, if_false]
      exact (hL.hd i (by rw [keepAt_len, hn]; exact hil)).symm
    · rw [hswn]
      exact ⟨by omega, by simp [M], getD_of_get hatq⟩
  have hvi : ∀ i ∈ v1.ids, i ∈ fp ∨ i = n := fun i hi => hids i (List.mem_append_left _ hi)
  have hbi : ∀ (b : Nat) x, bs1[b]? = some x → ∀ i ∈ x.ids, i ∈ fp ∨ i = n := fun b x hx i hi => hids i (List.mem_append_right _ (List.mem_flatMap.2 ⟨x, List.mem_of_getElem? hx, hi⟩))
  have hkeepAt : ∀ b, b ∈ fp → (keepAt fp Box.dead σ.boxes).getD b .dead = σ.boxes.getD b .dead := by
    intro b hb
    have : fp.contains b = true := by simpa using hb
    rw [List.getD_eq_getElem?_getD, List.getD_eq_getElem?_getD, keepAt_get, this]
    cases σ.boxes[b]? <;> rfl
  have hle : ∀ b, b < n → b ≠ q → Box.le (σ.boxes.getD b .dead) (BS.getD b .dead) := by
    intro b hb hbq
    by_cases hf : b ∈ fp
    · rw [getD_of_get (hin b hf hb), ← hkeepAt b hf]
      exact le_ren_right (hL.le b (by rw [keepAt_len, hn]; exact hb))
    · rw [List.getD_eq_getElem?_getD, List.getD_eq_getElem?_getD, hout b hbq hf]
      exact Box.le_refl _
  have hMb : ∀ b, b ≠ q → M b = m b := fun b hb => by simp [M, hb]
  -- the rest, as if the new box had always been there
  have L2 : Later F F1 w w' (upd m q (m1 n)) M (σ.boxes.set q (BS.getD q .dead)) BS := by
    refine ⟨hL.fz, hL.blk, by rw [List.length_set, hn, hBl]; exact Nat.le_refl _, fun b hb => ?_, fun b hb => rfl⟩
    rw [List.length_set, hn] at hb
    by_cases hbq : b = q
    · subst hbq
      rw [getD_of_get (List.getElem?_set_self (by rw [hn]; exact hb))]
      exact Box.le_refl _
    · rw [List.getD_eq_getElem?_getD (l := σ.boxes.set _ _), List.getElem?_set_ne (Ne.symm hbq), ← List.getD_eq_getElem?_getD]
      exact hle b hb hbq
  -- boxes that were not seen
  have hunseen : ∀ b x g, b ∉ fp → σ.boxes[b]? = some x → x.live = true → blk (m b) = some g → ¬ Om g := by
    intro b x g hf hx hl hg hom
    rcases hOm g hom with ⟨b', y, hy, hly, hgy⟩ | hfresh
    · rw [keepAt_get] at hy
      cases hb' : σ.boxes[b']? with
      | none => rw [hb'] at hy; cases hy
      | some z =>
        rw [hb'] at hy
        simp only [Option.map_some, Option.some.injEq] at hy
        cases hc : fp.contains b' with
        | false => rw [hc] at hy; subst hy; cases hly
        | true =>
          rw [hc] at hy
          simp only [cond_true] at hy
          subst hy
          have hb'f : b' ∈ fp := by simpa using hc
          exact hR.boxes.apart b b' x z g hx hb' hl hly (fun e => hf (e ▸ hb'f)) hg hgy
    · have := (hR.boxes.box b x hx).lt hl hg
      omega
  have hOmO : ∀ g, Om g → O g := by
    intro g hom
    rcases hOm g hom with ⟨b', y, hy, hly, hgy⟩ | hfresh
    · rw [keepAt_get] at hy
      cases hb' : σ.boxes[b']? with
      | none => rw [hb'] at hy; cases hy
      | some z =>
        rw [hb'] at hy
        simp only [Option.map_some, Option.some.injEq] at hy
        cases hc : fp.contains b' with
        | false => rw [hc] at hy; subst hy; cases hly
        | true =>
          rw [hc] at hy
          simp only [cond_true] at hy
          subst hy
          exact hR.own g ⟨b', z, hb', hly, hgy⟩
    · exact hO g hfresh
  have hcase : ∀ b x, BS[b]? = some x → (∃ j y, bs1[j]? = some y ∧ (j ∈ fp ∨ j = n) ∧ b = swapTo n q j ∧ x = y.ren (swapTo n q) ∧ M b = m1 j) ∨ x = .dead ∨ (b ≠ q ∧ b ∉ fp ∧ σ.boxes[b]? = some x) := by
    intro b x hx
    have hb := get_lt hx
    rw [hBl] at hb
    by_cases hbq : b = q
    · subst hbq
      rw [hatq] at hx
      rcases Nat.lt_or_ge n bs1.length with h | h
      · refine .inl ⟨n, bs1[n], List.getElem?_eq_getElem h, .inr rfl, hswn.symm, ?_, by simp [M]⟩
        rw [getD_of_get (List.getElem?_eq_getElem h)] at hx
        exact (Option.some.inj hx).symm
      · rw [List.getD_eq_getElem?_getD, List.getElem?_eq_none h] at hx
        exact .inr (.inl (Option.some.inj hx).symm)
    · by_cases hf : b ∈ fp
      · have hb1 : b < bs1.length := by omega
        rw [hin b hf hb, getD_of_get (List.getElem?_eq_getElem hb1)] at hx
        refine .inl ⟨b, bs1[b], List.getElem?_eq_getElem hb1, .inl hf, (hsw b (by omega)).symm, (Option.some.inj hx).symm, ?_⟩
        rw [hMb b hbq]
        exact (hL.hd b (by rw [keepAt_len, hn]; exact hb)).symm
      · exact .inr (.inr ⟨hbq, hf, by rw [← hout b hbq hf]; exact hx⟩)
  refine ⟨M, ⟨?_, ⟨fun b x hx => ?_, fun b b' x x' g hx hx' hl hl' hne hg hg' => ?_, h1.fz, h1.glob⟩, ?_, hR.defers⟩, hv.ren hren hvi, hk.mono hOmO, fun g hg => (hF g hg).imp id (hOmO g), fun b hb hbq => ⟨hle b hb hbq, hMb b hbq⟩⟩
  · have : ∀ {vs : List V} {cs : List Value}, All2 (RV F w m σ.boxes) vs cs → (∀ s ∈ vs, ∀ i ∈ s.ids, i ≠ q) → All2 (RV F1 w' M BS) vs cs := by
      intro vs cs h hs
      induction h with
      | nil => exact .nil
      | cons h _ ih => exact .cons ((h.off hR.boxes (hs _ (by simp))).later L2) (ih fun s hs' => hs s (by simp [hs']))
    exact this hR.slots hns
  · rcases hcase b x hx with ⟨j, y, hy, hj, rfl, rfl, hm⟩ | rfl | ⟨hbq, hf, hx'⟩
    · exact RB.ren hren (h1.box j y hy) hm (hbi j y hy)
    · exact trivial
    · refine RB.later (RB.off hR.boxes (hR.boxes.box b x hx') hbq (hnb b x hx')) L2 (by rw [List.length_set]; exact get_lt hx') fun hl g hg => ?_
      have hg : blk (m b) = some g := by simpa [upd, hbq] using hg
      have hno := hunseen b x g hf hx' hl hg
      refine ⟨hk.block g ((hR.boxes.box b x hx').lt hl hg) hno, fun h => ?_⟩
      rcases hF g h with h | h
      · exact (hR.boxes.box b x hx').notF hl hg h
      · exact hno h
  · rcases hcase b x hx with ⟨j, y, hy, hj, rfl, rfl, hm⟩ | rfl | ⟨hbq, hf, hx1⟩ <;> rcases hcase b' x' hx' with ⟨j', y', hy', hj', rfl, rfl, hm'⟩ | rfl | ⟨hbq', hf', hx1'⟩
    · rw [live_ren] at hl hl'
      rw [hm] at hg
      rw [hm'] at hg'
      exact h1.apart j j' y y' g hy hy' hl hl' (fun e => hne (by rw [e])) hg hg'
    · cases hl'
    · rw [live_ren] at hl
      rw [hm] at hg
      rw [hMb _ hbq'] at hg'
      exact hunseen b' x' g hf' hx1' hl' hg' (hown g ⟨j, y, hy, hl, hg⟩)
    · cases hl
    · cases hl
    · cases hl
    · rw [live_ren] at hl'
      rw [hm'] at hg'
      rw [hMb _ hbq] at hg
      exact hunseen b x g hf hx1 hl hg (hown g ⟨j', y', hy', hl', hg'⟩)
    · cases hl'
    · rw [hMb _ hbq] at hg
      rw [hMb _ hbq'] at hg'
      exact hR.boxes.apart b b' x x' g hx1 hx1' hl hl' hne hg hg'
  · rintro g ⟨b, x, hx, hl, hg⟩
    rcases hcase b x hx with ⟨j, y, hy, hj, rfl, rfl, hm⟩ | rfl | ⟨hbq, hf, hx1⟩
    · rw [live_ren] at hl
      rw [hm] at hg
      exact hOmO g (hown g ⟨j, y, hy, hl, hg⟩)
    · cases hl
    · rw [hMb _ hbq] at hg
      exact hR.own g ⟨b, x, hx1, hl, hg⟩
end Go.Lin
end

/- One operation of a drawn region, at the machine. -/
section
namespace Go.Lin

variable {F F' F1 : Fz} {w w' : World} {m m' m1 : Nat → Value} {bs bs' bs1 : List Box} {O Om : Nat → Prop} {σ : St} {a : Act} {P : Program} {tt : TT} {ρ : Type} {C : FuncId → List Md × Orc ρ} {o : Oper} {ops : Array Oper} {q : Nat} {v : V} {next : Act → World → Prop} {Q : Exit → Act → World → Prop}

theorem mask_later [Base] (fp : List Nat) : Later F F w w m m σ.boxes (keepAt fp .dead σ.boxes) := by
  refine ⟨fun _ h => h, fun _ _ => rfl, by rw [keepAt_len]; exact Nat.le_refl _, fun b hb => ?_, fun _ _ => rfl⟩
  rw [List.getD_eq_getElem?_getD (l := keepAt _ _ _), keepAt_get, List.getD_eq_getElem?_getD, List.getElem?_eq_getElem hb]
  cases fp.contains b
  · exact trivial
  · exact Box.le_refl _
theorem mask_get [Base] {fp : List Nat} {b : Nat} {x : Box} (h : (keepAt fp Box.dead σ.boxes)[b]? = some x) : x = .dead ∨ (b ∈ fp ∧ σ.boxes[b]? = some x) := by
  rw [keepAt_get] at h
  cases hb : σ.boxes[b]? with
  | none => rw [hb] at h; cases h
  | some z =>
    rw [hb] at h
    simp only [Option.map_some, Option.some.injEq] at h
    cases hc : fp.contains b with
    | false => rw [hc] at h; exact .inl h.symm
    | true => rw [hc] at h; exact .inr ⟨by simpa using hc, by rw [← h]; rfl⟩
theorem Rel.mask [Base] (hR : Rel O F m σ a w) (ks fp : List Nat) : Rel (fun g => Owned m (keepAt fp .dead σ.boxes) g ∨ w.heap.size ≤ g) F m ⟨keepAt ks .junk σ.slots, keepAt fp .dead σ.boxes⟩ a w := by
  refine ⟨?_, ⟨fun b x hx => ?_, fun b b' x x' g hx hx' hl hl' hne hg hg' => ?_, hR.boxes.fz, hR.boxes.glob⟩, fun g hg => .inl hg, hR.defers⟩
  · have : ∀ {vs : List V} {cs : List Value}, All2 (RV F w m σ.boxes) vs cs → ∀ n, All2 (RV F w m (keepAt fp .dead σ.boxes)) ((vs.zipIdx n).map fun x => bif ks.contains x.2 then x.1 else .junk) cs := by
      intro vs cs h
      induction h with
      | nil => exact fun _ => .nil
      | cons h _ ih =>
        intro n
        rw [List.zipIdx_cons, List.map_cons]
        refine .cons ?_ (ih (n + 1))
        dsimp only
        cases ks.contains n
        · exact trivial
        · exact h.later (mask_later fp)
    exact this hR.slots 0
  · rcases mask_get hx with rfl | ⟨_, hx⟩
    · exact trivial
    · exact (hR.boxes.box b x hx).later (mask_later fp) (get_lt hx) fun hl g hg => ⟨rfl, (hR.boxes.box b x hx).notF hl hg⟩
  · rcases mask_get hx with rfl | ⟨_, hx⟩
    · cases hl
    · rcases mask_get hx' with rfl | ⟨_, hx'⟩
      · cases hl'
      · exact hR.boxes.apart b b' x x' g hx hx' hl hl' hne hg hg'

/-- What is so behind an operation of a drawn region: of the box at q nothing was known. -/
structure Next (O : Nat → Prop) (q : Nat) (F F' : Fz) (w w' : World) (m m' : Nat → Value) (bs bs' : List Box) : Prop where
  keep : Keep O w w'
  fz : ∀ g, F g → F' g
  blk : ∀ g, F g → w'.heap[g]? = w.heap[g]?
  fz' : ∀ g, F' g → F g ∨ O g
  old : ∀ b, b < bs.length → b ≠ q → Box.le (bs.getD b .dead) (bs'.getD b .dead) ∧ m' b = m b

theorem local_sound [Base] (hT : TTok P tt) (hC : Reals P C) (r : ρ) (hR : Rel O F m σ a w) (hO : ∀ g, w.heap.size ≤ g → O g) (hd : DoesL tt C ops q o σ v bs) (hq : q < σ.boxes.length)
    (hns : ∀ s ∈ σ.slots, ∀ i ∈ s.ids, i ≠ q) (hnb : ∀ (b : Nat) x, σ.boxes[b]? = some x → ∀ i ∈ x.ids, i ≠ q)
    (hn : ∀ cv w' F' m', Rel O F' m' ⟨σ.slots, bs⟩ a w' → RV F' w' m' bs v cv → Next O q F F' w w' m m' σ.boxes bs → next (a.put o.dst cv) w') : o.wp P a w next Q := by
  obtain ⟨hfree, v1, bs1, hs, ho⟩ := hd
  simp only [Bool.and_eq_true, Bool.not_eq_true', List.contains_eq_mem, decide_eq_false_iff_not] at hfree
  obtain ⟨hqf, hLf, hdead⟩ := hfree
  have hdead : σ.boxes[q]? = some .dead := by
    have : σ.boxes.getD q .dead = .dead := by
      revert hdead
      show (σ.boxes.getD q .dead).isDead = true → _
      cases σ.boxes.getD q .dead <;> simp [Box.isDead]
    rw [List.getElem?_eq_getElem hq]
    rw [getD_of_get (List.getElem?_eq_getElem hq)] at this
    rw [this]
  have hmask := hR.mask (o.looksAt ops) (fpOf o σ)
  let K : V → St → Option ρ := fun v' σ' => open Classical in if v' = v1 ∧ σ' = ⟨keepAt (o.looksAt ops) .junk σ.slots, bs1⟩ then some r else none
  have hK : step tt C o ⟨keepAt (o.looksAt ops) .junk σ.slots, keepAt (fpOf o σ) .dead σ.boxes⟩ K = some r := by
    rw [hs K]
    simp [K]
  refine step_sound hT hC hmask (fun g hg => .inr hg) hK fun cv w' hout => ?_
  obtain ⟨v', σ', F', m', hK', hR', hv', hk, hL, hF⟩ := hout
  have hpin : v' = v1 ∧ σ' = ⟨keepAt (o.looksAt ops) .junk σ.slots, bs1⟩ := by
    simp only [K] at hK'
    split at hK'
    · assumption
    · cases hK'
  obtain ⟨rfl, rfl⟩ := hpin
  have fin : bs1.length ≤ σ.boxes.length + 1 → (∀ i ∈ v'.ids ++ bs1.flatMap Box.ids, i ∈ fpOf o σ ∨ i = σ.boxes.length) →
      v = v'.ren (swapTo σ.boxes.length q) → bs = over (q :: fpOf o σ) ((bs1.map (Box.ren (swapTo σ.boxes.length q))).set q ((bs1.getD σ.boxes.length .dead).ren (swapTo σ.boxes.length q))) σ.boxes → next (a.put o.dst cv) w' := by
    intro hl hi hev hebs
    obtain ⟨M, hM, hvM, hkO, hFO, hold⟩ := unmask hR hO hq hqf hLf hns hnb (fun g h => h) hR'.boxes (fun g h => hR'.own g h) hv' hk hL hF hl hi
    subst hev hebs
    exact hn cv w' F' M hM hvM ⟨hkO, hL.fz, hL.blk, hFO, hold⟩
  unfold outL at ho
  cases hr : readOnly o.op with
  | false =>
    rw [hr] at ho
    dsimp only at ho
    rw [cond_eq_ite] at ho
    split at ho
    case isFalse => cases ho
    rename_i hc
    simp only [Bool.and_eq_true, List.all_eq_true, Bool.or_eq_true, List.contains_iff_mem] at hc
    simp only [Option.some.injEq, Prod.mk.injEq] at ho
    refine fin (Nat.le_of_ble_eq_true hc.1) (fun i hi => (hc.2 i hi).imp id Nat.eq_of_beq_eq_true) ho.1.symm ho.2.symm
  | true =>
    rw [hr] at ho
    dsimp only at ho
    rw [cond_eq_ite] at ho
    split at ho
    case isFalse => cases ho
    rename_i hc
    simp only [List.all_eq_true, List.contains_iff_mem] at hc
    simp only [Option.some.injEq, Prod.mk.injEq] at ho
    obtain ⟨rfl, rfl⟩ := ho
    -- nothing was written
    have hbs1 : bs1 = keepAt (fpOf o σ) .dead σ.boxes := by
      let K2 : V → St → Option ρ := fun v2 σ2 => open Classical in if σ2.boxes = bs1 then some r else none
      have h2 := hs K2
      have h3 : K2 v' ⟨keepAt (o.looksAt ops) .junk σ.slots, bs1⟩ = some r := by simp [K2]
      rw [h3] at h2
      obtain ⟨v3, hv3⟩ := nat_read (tt := tt) (C := C) (σ := ⟨keepAt (o.looksAt ops) .junk σ.slots, keepAt (fpOf o σ) .dead σ.boxes⟩) hr _ _ h2
      have h4 : step tt C o ⟨keepAt (o.looksAt ops) .junk σ.slots, keepAt (fpOf o σ) .dead σ.boxes⟩ K2 = K2 v3 ⟨keepAt (o.looksAt ops) .junk σ.slots, keepAt (fpOf o σ) .dead σ.boxes⟩ := hv3 K2
      rw [h4] at h2
      simp only [K2] at h2
      split at h2
      · rename_i he; exact he.symm
      · cases h2
    subst hbs1
    have hsame : ∀ i ∈ fpOf o σ, swapTo σ.boxes.length q i = i := by
      intro i hi
      have : Nat.beq i σ.boxes.length = false := by
        cases h : Nat.beq i σ.boxes.length
        · rfl
        · exact absurd (Nat.eq_of_beq_eq_true h ▸ hi) hLf
      simp [swapTo, this]
    refine fin (by rw [keepAt_len]; omega) (fun i hi => .inl (hc i hi)) ?_ ?_
    · exact (V.ren_same hv'.plain fun i hi => hsame i (hc i (List.mem_append_left _ hi))).symm
    · apply List.ext_getElem?
      intro b
      rw [over_get]
      cases hb : σ.boxes[b]? with
      | none => rfl
      | some x =>
        have hbl := get_lt hb
        simp only [Option.map_some, Option.some.injEq]
        cases hcb : (q :: fpOf o σ).contains b with
        | false => rfl
        | true =>
          simp only [cond_true]
          rw [List.getD_eq_getElem?_getD]
          by_cases hbq : b = q
          · subst hbq
            rw [List.getElem?_set_self (by simp [keepAt_len]; exact hq)]
            rw [hdead] at hb
            obtain rfl := Option.some.inj hb
            have : (keepAt (fpOf o σ) Box.dead σ.boxes).getD σ.boxes.length .dead = .dead := by
              rw [List.getD_eq_getElem?_getD, List.getElem?_eq_none (by rw [keepAt_len]; exact Nat.le_refl _)]; rfl
            rw [this]; rfl
          · have hbf : b ∈ fpOf o σ := by
              have : b ∈ q :: fpOf o σ := by simpa using hcb
              simpa [hbq] using this
            have hcf : (fpOf o σ).contains b = true := by simpa using hbf
            have hkb : (keepAt (fpOf o σ) Box.dead σ.boxes)[b]? = some x := by rw [keepAt_get, hcf, hb]; rfl
            rw [List.getElem?_set_ne (Ne.symm hbq), List.getElem?_map, hkb]
            simp only [Option.map_some, Option.getD_some]
            exact (Box.ren_same (hmask.boxes.box b x hkb) fun i hi => hsame i (hc i (List.mem_append_right _ (List.mem_flatMap.2 ⟨x, List.mem_of_getElem? hkb, hi⟩)))).symm
end Go.Lin
end

/- Operations that see and leave different things may change places. -/
section
namespace Go.Lin

variable {ρ : Type} {σ σ' σ2 : St} {tt : TT} {C : FuncId → List Md × Orc ρ} {o : Oper} {ops : Array Oper} {q base : Nat} {v : V} {bs : List Box}

/-- Is it run? -/
def wantedV (ops : Array Oper) (o : Oper) (σ : St) : Option Bool := match o.guard with
  | none => some true
  | some (j, want) => match (ops[j]?).bind (·.dst) with
    | none => none
    | some d => match σ.slots.getD d .undef with
      | .bool t => some (t == want)
      | .undef => some false
      | _ => none

inductive DoesA (tt : TT) (C : FuncId → List Md × Orc ρ) (ops : Array Oper) (q : Nat) (o : Oper) (σ : St) : V → List Box → Prop
  | go {v : V} {bs : List Box} : wantedV ops o σ = some true → DoesL tt C ops q o σ v bs → DoesA tt C ops q o σ v bs
  | skip : wantedV ops o σ = some false → DoesA tt C ops q o σ .undef σ.boxes

theorem Agree.wanted (h : Agree ops q o σ σ2) : wantedV ops o σ2 = wantedV ops o σ := by
  unfold wantedV
  cases hg : o.guard with
  | none => rfl
  | some p =>
    obtain ⟨j, want⟩ := p
    dsimp only
    cases hd : (ops[j]?).bind (·.dst) with
    | none => rfl
    | some d =>
      have hm : d ∈ o.looksAt ops := List.mem_append_right _ (by simp [hg, hd])
      dsimp only
      rw [List.getD_eq_getElem?_getD, List.getD_eq_getElem?_getD, h.slots d hm]

theorem DoesA.len [Base] (h : DoesA tt C ops q o σ v bs) : bs.length = σ.boxes.length := by
  cases h with
  | go _ h => exact h.len
  | skip _ => rfl
theorem DoesA.out [Base] (h : DoesA tt C ops q o σ v bs) {b : Nat} (hb : b ∉ wOf q o σ) : bs[b]? = σ.boxes[b]? := by
  cases h with
  | go _ h => exact h.out hb
  | skip _ => rfl
theorem wOf_sub {b : Nat} (h : b ∈ wOf q o σ) : b ∈ q :: fpOf o σ := by
  unfold wOf at h
  cases hr : readOnly o.op with
  | true => rw [hr] at h; cases h
  | false => rw [hr] at h; exact h
theorem DoesA.frame [Base] (hd : DoesA tt C ops q o σ v bs) (h : Agree ops q o σ σ2) : ∃ bs2, DoesA tt C ops q o σ2 v bs2 ∧ (∀ b, b ∈ wOf q o σ → bs2[b]? = bs[b]?) ∧ ∀ b, b ∉ wOf q o σ → bs2[b]? = σ2.boxes[b]? := by
  have hw := h.wanted
  cases hd with
  | go hg hl =>
    refine ⟨_, .go (hw.trans hg) (hl.frame h), fun b hb => ?_, fun b hb => ?_⟩
    · have hc : (wOf q o σ).contains b = true := by simpa using hb
      rw [over_get, hc]
      have hlen := hl.len
      have hn := h.nboxes
      rcases Nat.lt_or_ge b bs.length with hlt | hge
      · rw [List.getElem?_eq_getElem (by omega : b < σ2.boxes.length), List.getElem?_eq_getElem hlt]
        simp only [Option.map_some, cond_true]
        rw [getD_of_get (List.getElem?_eq_getElem hlt)]
      · rw [List.getElem?_eq_none (by omega : σ2.boxes.length ≤ b), List.getElem?_eq_none hge]; rfl
    · have hc : (wOf q o σ).contains b = false := by simpa using hb
      rw [over_get, hc]
      cases σ2.boxes[b]? <;> rfl
  | skip hg => exact ⟨σ2.boxes, .skip (hw.trans hg), fun b hb => h.boxes b (wOf_sub hb), fun _ _ => rfl⟩

/-- One operation behind the other; with each: what it sees, and where it may leave something. -/
inductive Tr (tt : TT) (C : FuncId → List Md × Orc ρ) (ops : Array Oper) (base : Nat) : List (Nat × List Nat × List Nat) → St → St → Prop
  | nil {σ : St} : Tr tt C ops base [] σ σ
  | cons {i : Nat} {o : Oper} {v : V} {bs : List Box} {l : List (Nat × List Nat × List Nat)} {σ σ' : St} : ops[i]? = some o → DoesA tt C ops (base + i) o σ v bs → Tr tt C ops base l (St.put ⟨σ.slots, bs⟩ o.dst v) σ' →
      Tr tt C ops base ((i, (base + i) :: fpOf o σ, wOf (base + i) o σ) :: l) σ σ'

structure Indep (ops : Array Oper) (x y : Nat × List Nat × List Nat) : Prop where
  apart : ∀ ox oy, ops[x.1]? = some ox → ops[y.1]? = some oy → ox.apart ops oy = true
  left : ∀ b ∈ x.2.2, b ∉ y.2.1
  right : ∀ b ∈ x.2.1, b ∉ y.2.2

theorem put_slots_ne {d : Nat} {dst : Option Nat} (h : ∀ e, dst = some e → e ≠ d) {σ : St} {v : V} : (σ.put dst v).slots[d]? = σ.slots[d]? := by
  cases dst with
  | none => rfl
  | some e => exact List.getElem?_set_ne (h e rfl)
theorem put_slen (σ : St) (dst : Option Nat) (v : V) : (σ.put dst v).slots.length = σ.slots.length := by
  cases dst with
  | none => rfl
  | some e => exact List.length_set

theorem Tr.swap [Base] {x y : Nat × List Nat × List Nat} {l : List (Nat × List Nat × List Nat)} (h : Tr tt C ops base (x :: y :: l) σ σ') (hi : Indep ops x y) : Tr tt C ops base (y :: x :: l) σ σ' := by
  cases h with
  | @cons i ox vx bx _ _ _ hox hdx h =>
    cases h with
    | @cons j oy vy by_ _ _ _ hoy hdy h =>
      obtain ⟨hap, hl, hr⟩ := hi
      obtain ⟨ha1, ha2, ha3⟩ := Oper.apart_spec (hap ox oy hox hoy)
      dsimp only at hl hr
      generalize hs1 : St.put ⟨σ.slots, bx⟩ ox.dst vx = s1 at *
      have hb1 : s1.boxes = bx := by rw [← hs1, St.put_boxes]
      have hsl1 : ∀ d, d ∈ oy.looksAt ops → s1.slots[d]? = σ.slots[d]? := by
        intro d hd
        rw [← hs1]
        exact put_slots_ne fun e he hee => ha1 e he (hee ▸ hd)
      have hn1 : s1.slots.length = σ.slots.length := by rw [← hs1, put_slen]
      have hAy : Agree ops (base + j) oy s1 σ := by
        refine ⟨fun d hd => (hsl1 d hd).symm, fun b hb => ?_, hn1.symm, ?_⟩
        · rw [hb1]
          exact (hdx.out fun hw => hl b hw hb).symm
        · rw [hb1]; exact hdx.len.symm
      have hfy := hAy.fp
      have hwy : wOf (base + j) oy σ = wOf (base + j) oy s1 := by unfold wOf; rw [hfy]
      obtain ⟨b2, hdy2, hy1, hy2⟩ := hdy.frame hAy
      generalize hs2 : St.put ⟨σ.slots, b2⟩ oy.dst vy = s2
      have hb2 : s2.boxes = b2 := by rw [← hs2, St.put_boxes]
      have hAx : Agree ops (base + i) ox σ s2 := by
        refine ⟨fun d hd => ?_, fun b hb => ?_, by rw [← hs2, put_slen], by rw [hb2]; exact hdy2.len⟩
        · rw [← hs2]
          exact put_slots_ne fun e he hee => ha3 e he (hee ▸ hd)
        · rw [hb2]
          exact hy2 b fun hw => hr b hb hw
      have hfx := hAx.fp
      have hwx : wOf (base + i) ox s2 = wOf (base + i) ox σ := by unfold wOf; rw [hfx]
      obtain ⟨b3, hdx3, hx1, hx2⟩ := hdx.frame hAx
      have hfin : St.put ⟨s2.slots, b3⟩ ox.dst vx = St.put ⟨s1.slots, by_⟩ oy.dst vy := by
        have e1 : ∀ {a b : St}, a.slots = b.slots → a.boxes = b.boxes → a = b := by
          rintro ⟨_, _⟩ ⟨_, _⟩ h1 h2
          simp_all
        apply e1
        · rw [← hs2, ← hs1]
          cases hx : ox.dst with
          | none => cases hy : oy.dst <;> rfl
          | some d =>
            cases hy : oy.dst with
            | none => rfl
            | some e =>
              have hne : d ≠ e := fun he => ha2 d hx (he ▸ hy)
              exact List.set_comm _ _ (Ne.symm hne)
        · rw [St.put_boxes, St.put_boxes]
          apply List.ext_getElem?
          intro b
          by_cases hbx : b ∈ wOf (base + i) ox σ
          · rw [hx1 b hbx]
            have : b ∉ wOf (base + j) oy s1 := fun hw => hl b hbx (wOf_sub hw)
            rw [hdy.out this, hb1]
          · rw [hx2 b hbx, hb2]
            by_cases hby : b ∈ wOf (base + j) oy s1
            · exact hy1 b hby
            · rw [hy2 b hby, hdy.out hby, hb1, hdx.out hbx]
      have t1 : Tr tt C ops base ((i, (base + i) :: fpOf ox s2, wOf (base + i) ox s2) :: l) s2 σ' := .cons hox hdx3 (by rw [hfin]; exact h)
      rw [hfx, hwx] at t1
      have t2 : Tr tt C ops base ((j, (base + j) :: fpOf oy σ, wOf (base + j) oy σ) :: (i, (base + i) :: fpOf ox σ, wOf (base + i) ox σ) :: l) σ σ' := .cons hoy hdy2 (by rw [hs2]; exact t1)
      rw [hfy, hwy] at t2
      exact t2

theorem Tr.bubble [Base] {y : Nat × List Nat × List Nat} : ∀ {l1 l2 : List (Nat × List Nat × List Nat)} {σ σ' : St}, Tr tt C ops base (l1 ++ y :: l2) σ σ' → (∀ x ∈ l1, Indep ops x y) → Tr tt C ops base (y :: (l1 ++ l2)) σ σ'
  | [], l2, σ, σ', h, _ => h
  | x :: l1, l2, σ, σ', h, hi => by
    rw [List.cons_append] at h ⊢
    cases h with
    | cons hox hdx h => exact Tr.swap (.cons hox hdx (Tr.bubble h fun x hx => hi x (by simp [hx]))) (hi _ (by simp))
end Go.Lin
end

/- Which boxes an operation's results lead to. -/
section
namespace Go.Lin

variable {ρ : Type} {σ σ' σ2 : St} {tt : TT} {C : FuncId → List Md × Orc ρ} {o : Oper} {ops : Array Oper} {q base : Nat} {v : V} {bs : List Box} {f : Nat → Nat}

theorem V.id1_ren (v : V) : (v.ren1 f).id1 = v.id1.map f := by cases v <;> rfl
theorem V.id1s_ren [Base] (cs : List V) : (cs.map (V.ren1 f)).flatMap V.id1 = (cs.flatMap V.id1).map f := by
  induction cs with
  | nil => rfl
  | cons c cs ih => rw [List.map_cons, List.flatMap_cons, List.flatMap_cons, List.map_append, ih, V.id1_ren]
theorem V.ids_ren [Base] (v : V) : (v.ren f).ids = v.ids.map f := by
  cases v with
  | tup vs =>
    show ((vs.map (V.ren2 f)).flatMap fun v => match v with | .agg cs => cs.flatMap V.id1 | v => v.id1) = (vs.flatMap fun v => match v with | .agg cs => cs.flatMap V.id1 | v => v.id1).map f
    induction vs with
    | nil => rfl
    | cons c cs ih =>
      rw [List.map_cons, List.flatMap_cons, List.flatMap_cons, List.map_append, ih]
      congr 1
      cases c with
      | agg ds => exact V.id1s_ren ds
      | _ => first | rfl | exact V.id1_ren _
  | agg cs => exact V.id1s_ren cs
  | fn g cs => exact V.id1s_ren cs
  | _ => first | rfl | exact V.id1_ren _
theorem Box.ids_ren [Base] (x : Box) : (x.ren f).ids = x.ids.map f := by
  cases x with
  | cells t cs =>
    show (cs.map (V.ren f)).flatMap V.ids = (cs.flatMap V.ids).map f
    induction cs with
    | nil => rfl
    | cons c cs ih => rw [List.map_cons, List.flatMap_cons, List.flatMap_cons, List.map_append, ih, V.ids_ren]
  | _ => rfl

theorem mem_addNew {l : List Nat} {n i : Nat} (h : i ∈ addNew l n) : i ∈ l ∨ i = n := by
  unfold addNew at h
  cases hc : l.contains n with
  | true => rw [hc] at h; exact .inl h
  | false =>
    rw [hc] at h
    simpa using h
theorem mem_foldl [Base] {xs l : List Nat} {i : Nat} (h : i ∈ xs.foldl addNew l) : i ∈ l ∨ i ∈ xs := by
  induction xs generalizing l with
  | nil => exact .inl h
  | cons x xs ih =>
    rcases ih h with h | h
    · rcases mem_addNew h with h | rfl
      · exact .inl h
      · exact .inr (by simp)
    · exact .inr (by simp [h])

theorem ofConst_ids (c : Value) : (ofConst c).ids = [] := by
  unfold ofConst
  split
  · rfl
  · rfl
  · rfl
  · rfl
  · split <;> rfl
  · rfl
theorem ev_ids [Base] {x : Operand} {i : Nat} (h : i ∈ (σ.ev x).ids) : ∃ s ∈ σ.slots, i ∈ s.ids := by
  cases x with
  | tmp t =>
    have h : i ∈ (σ.slots.getD t .undef).ids := h
    rcases Nat.lt_or_ge t σ.slots.length with hlt | hge
    · rw [List.getD_eq_getElem?_getD, List.getElem?_eq_getElem hlt] at h
      exact ⟨_, List.getElem_mem hlt, h⟩
    · rw [List.getD_eq_getElem?_getD, List.getElem?_eq_none hge] at h
      cases h
  | const c =>
    have h : i ∈ (ofConst c).ids := h
    rw [ofConst_ids] at h
    cases h
  | func g => cases h
  | «global» g => cases h
theorem fp_ids [Base] {i : Nat} (h : i ∈ fpOf o σ) : (∃ s ∈ σ.slots, i ∈ s.ids) ∨ ∃ (b : Nat) (x : Box), σ.boxes[b]? = some x ∧ i ∈ x.ids := by
  unfold fpOf reach at h
  rcases mem_foldl h with h | h
  · rcases mem_foldl h with h | h
    · cases h
    · obtain ⟨v, hv, hi⟩ := List.mem_flatMap.1 h
      obtain ⟨x, _, rfl⟩ := List.mem_map.1 hv
      exact .inl (ev_ids hi)
  · obtain ⟨b, _, hi⟩ := List.mem_flatMap.1 h
    rcases Nat.lt_or_ge b σ.boxes.length with hlt | hge
    · rw [List.getD_eq_getElem?_getD, List.getElem?_eq_getElem hlt] at hi
      exact .inr ⟨b, _, List.getElem?_eq_getElem hlt, hi⟩
    · rw [List.getD_eq_getElem?_getD, List.getElem?_eq_none hge] at hi
      cases hi

theorem DoesL.ids [Base] (hd : DoesL tt C ops q o σ v bs) : (∀ i ∈ v.ids, i ∈ q :: fpOf o σ) ∧ ∀ (b : Nat) (x : Box), bs[b]? = some x → ∀ i ∈ x.ids, i ∈ q :: fpOf o σ ∨ ∃ y, σ.boxes[b]? = some y ∧ i ∈ y.ids := by
  obtain ⟨hfree, v1, bs1, hs, ho⟩ := hd
  simp only [Bool.and_eq_true, Bool.not_eq_true', List.contains_eq_mem, decide_eq_false_iff_not] at hfree
  obtain ⟨hqf, hLf, hdead⟩ := hfree
  unfold outL at ho
  cases hr : readOnly o.op with
  | true =>
    rw [hr] at ho
    dsimp only at ho
    rw [cond_eq_ite] at ho
    split at ho
    case isFalse => cases ho
    rename_i hc
    simp only [List.all_eq_true, List.contains_iff_mem] at hc
    simp only [Option.some.injEq, Prod.mk.injEq] at ho
    obtain ⟨rfl, rfl⟩ := ho
    exact ⟨fun i hi => by simp [hc i (List.mem_append_left _ hi)], fun b x hx i hi => .inr ⟨x, hx, hi⟩⟩
  | false =>
    rw [hr] at ho
    dsimp only at ho
    rw [cond_eq_ite] at ho
    split at ho
    case isFalse => cases ho
    rename_i hc
    simp only [Bool.and_eq_true, List.all_eq_true, Bool.or_eq_true, List.contains_iff_mem] at hc
    simp only [Option.some.injEq, Prod.mk.injEq] at ho
    obtain ⟨rfl, rfl⟩ := ho
    have hsw : ∀ j, (j ∈ fpOf o σ ∨ Nat.beq j σ.boxes.length = true) → swapTo σ.boxes.length q j ∈ q :: fpOf o σ := by
      intro j hj
      unfold swapTo
      cases hb : Nat.beq j σ.boxes.length with
      | true => simp
      | false =>
        rcases hj with hj | hj
        · simp [hj]
        · rw [hb] at hj; cases hj
    have hbox : ∀ y ∈ bs1, ∀ i ∈ (y.ren (swapTo σ.boxes.length q)).ids, i ∈ q :: fpOf o σ := by
      intro y hy i hi
      rw [Box.ids_ren] at hi
      obtain ⟨j, hj, rfl⟩ := List.mem_map.1 hi
      exact hsw j (hc.2 j (List.mem_append_right _ (List.mem_flatMap.2 ⟨y, hy, hj⟩)))
    refine ⟨fun i hi => ?_, fun b x hx i hi => ?_⟩
    · rw [V.ids_ren] at hi
      obtain ⟨j, hj, rfl⟩ := List.mem_map.1 hi
      exact hsw j (hc.2 j (List.mem_append_left _ hj))
    · rw [over_get] at hx
      cases hb : σ.boxes[b]? with
      | none => rw [hb] at hx; cases hx
      | some z =>
        rw [hb] at hx
        simp only [Option.map_some, Option.some.injEq] at hx
        cases hcb : (q :: fpOf o σ).contains b with
        | false =>
          rw [hcb] at hx
          have hx : z = x := hx
          subst hx
          exact .inr ⟨_, rfl, hi⟩
        | true =>
          rw [hcb] at hx
          simp only [cond_true] at hx
          left
          subst hx
          rw [List.getD_eq_getElem?_getD] at hi
          cases hg : ((bs1.map (Box.ren (swapTo σ.boxes.length q))).set q ((bs1.getD σ.boxes.length .dead).ren (swapTo σ.boxes.length q)))[b]? with
          | none => rw [hg] at hi; cases hi
          | some y =>
            rw [hg] at hi
            simp only [Option.getD_some] at hi
            rcases List.mem_or_eq_of_mem_set (List.mem_of_getElem? hg) with hm | rfl
            · obtain ⟨y0, hy0, rfl⟩ := List.mem_map.1 hm
              exact hbox y0 hy0 i hi
            · rw [List.getD_eq_getElem?_getD] at hi
              cases hL : bs1[σ.boxes.length]? with
              | none => rw [hL] at hi; cases hi
              | some y0 =>
                rw [hL] at hi
                exact hbox y0 (List.mem_of_getElem? hL) i hi
end Go.Lin
end
