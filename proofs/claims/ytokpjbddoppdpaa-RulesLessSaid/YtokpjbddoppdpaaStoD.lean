/- A second interpreter over plain values, for code that writes memory: regions. -/
import Derived.Test.YtokpjbddoppdpaaStoC
import Derived.Sort.OwnSortedInts
import Derived.Lib.SlicesCompact
import Derived.Lib.RowBridge
set_option linter.unusedVariables false
set_option linter.unusedSimpArgs false
set_option linter.unusedSectionVars false
section
namespace Go.Eng
open Go.RowKit
set_option linter.unusedVariables false
set_option linter.unusedSimpArgs false

/-! ### what is written where -/
def idsW (W : Wr) : List Nat := W.map (·.1)
theorem setO_length (o : Ob) : ∀ (t : List Ob) (i : Nat), i < t.length → (setO t i o).length = t.length := fun t i h => by rw [setO_set h]; simp
theorem appl_len {W : Wr} : ∀ {s : List Ob}, (∀ i ∈ idsW W, i < s.length) → (appl s W).length = s.length := by
  induction W with
  | nil => intro s _; rfl
  | cons x W ih =>
    intro s h
    obtain ⟨i, o⟩ := x
    have hi := h i (by simp [idsW])
    have hl := setO_length o s i hi
    simp only [appl]
    rw [ih (fun j hj => by rw [hl]; exact h j (by simp [idsW] at hj ⊢; exact .inr hj)), hl]
theorem appl_none {W : Wr} : ∀ {s : List Ob} {r : Nat}, (∀ i ∈ idsW W, i < s.length) → r ∉ idsW W → (appl s W)[r]? = s[r]? := by
  induction W with
  | nil => intro s r _ _; rfl
  | cons x W ih =>
    intro s r h hr
    obtain ⟨i, o⟩ := x
    have hi := h i (by simp [idsW])
    have hl := setO_length o s i hi
    simp only [idsW, List.map_cons, List.mem_cons, not_or] at hr
    simp only [appl]
    rw [ih (fun j hj => by rw [hl]; exact h j (by simp [idsW] at hj ⊢; exact .inr hj)) hr.2, setO_get (by omega), if_neg (fun e => hr.1 e.symm)]
theorem appl_at {W : Wr} : ∀ {s s' : List Ob} {r : Nat}, (∀ i ∈ idsW W, i < s.length) → s'.length = s.length → s'[r]? = s[r]? → (appl s' W)[r]? = (appl s W)[r]? := by
  induction W with
  | nil => intro s s' r _ _ h; exact h
  | cons x W ih =>
    intro s s' r h hl hr
    obtain ⟨i, o⟩ := x
    have hi := h i (by simp [idsW])
    have l1 := setO_length o s i hi
    have l2 := setO_length o s' i (by omega)
    simp only [appl]
    exact ih (fun j hj => by rw [l1]; exact h j (by simp [idsW] at hj ⊢; exact .inr hj)) (by omega) (by rw [setO_get (by omega), setO_get (by omega), hr])
theorem appl_comm {W W' : Wr} {s : List Ob} (h : ∀ i ∈ idsW W, i < s.length) (h' : ∀ i ∈ idsW W', i < s.length) (hd : ∀ i ∈ idsW W, i ∉ idsW W') : appl (appl s W) W' = appl (appl s W') W := by
  have l1 := appl_len h
  have l2 := appl_len h'
  apply List.ext_getElem?
  intro r
  by_cases hr : r ∈ idsW W
  · rw [appl_none (fun i hi => by rw [l1]; exact h' i hi) (hd r hr)]
    exact (appl_at h l2 (appl_none h' (hd r hr))).symm
  · rw [appl_none (s := appl s W') (fun i hi => by rw [l2]; exact h i hi) hr]
    exact appl_at h' l1 (appl_none h hr)

theorem evOp2_congr {C : Cfg2} {o : Oper} {e e' : List HV} {st : List Ob} {fr : Option Nat} {β : Type} {K : KO β} (h : ∀ x ∈ o.op.operands, ev e x = ev e' x) : evOp2 C o e st fr K = evOp2 C o e' st fr K := by
  have fb : (brs (o.op.operands.toList.all fun x => cloT (ev e x)) (evOp ⟨C.P, C.call⟩ true o e [] fun v _ _ => K v [] []) none) = brs (o.op.operands.toList.all fun x => cloT (ev e' x)) (evOp ⟨C.P, C.call⟩ true o e' [] fun v _ _ => K v [] []) none := by
    have h1 : (o.op.operands.toList.all fun x => cloT (ev e x)) = o.op.operands.toList.all fun x => cloT (ev e' x) := by
      rw [Bool.eq_iff_iff, List.all_eq_true, List.all_eq_true]
      constructor
      · intro k x hx; rw [← h x (by simpa using hx)]; exact k x hx
      · intro k x hx; rw [h x (by simpa using hx)]; exact k x hx
    rw [h1, evOp_q, evOp_q ⟨C.P, C.call⟩ o e', valQ_congr h]
  have maps : ∀ ps : List Operand, (∀ x ∈ ps, ev e x = ev e' x) → ps.map (ev e) = ps.map (ev e') := fun ps hp => List.map_congr_left hp
  have pairs : ∀ ps : Array (Nat × Operand), (∀ x ∈ ps.map (·.2), ev e x = ev e' x) → ps.toList.map (ev e ∘ fun x => x.2) = ps.toList.map (ev e' ∘ fun x => x.2) := fun ps hp =>
    List.map_congr_left fun p hm => hp p.2 (Array.mem_map.2 ⟨p, by simpa using hm, rfl⟩)
  obtain ⟨dst, op, type, pos, after, guard⟩ := o
  unfold evOp2
  simp only at fb h ⊢
  cases op <;> simp only [Op.operands] at h <;> simp only [evK_eq, evKs_eq, List.map_map]
  case build t ps => simp only [pairs ps fun x hx => h x (by simpa using hx)]
  case buildSlice t n ps => simp only [pairs ps fun x hx => h x (by simpa using hx)]
  case makeFunc fn first captured => simp only [maps captured.toList fun x hx => h x (by simp at hx; simp [hx])]
  case slice t x lo hi mx =>
    have hx : ev e x = ev e' x := h x (by simp)
    have hlo : lo.map (ev e) = lo.map (ev e') := by cases lo with
      | none => rfl
      | some y => simp only [Option.map_some, h y (by simp)]
    have hhi : hi.map (ev e) = hi.map (ev e') := by cases hi with
      | none => rfl
      | some y => simp only [Option.map_some, h y (by simp)]
    have hmx : ∀ y, mx = some y → ev e y = ev e' y := fun y hy => h y (by subst hy; simp)
    have emp : ∀ id y, mx = some y → evOp2.empK C.P id t lo hi y e K = evOp2.empK C.P id t lo hi y e' K := fun id y hy => by
      unfold evOp2.empK
      rw [hhi, hmx y hy]
    rw [hx, hlo, hhi, fb]
    cases mx with
    | none => rfl
    | some y => simp only [emp _ y rfl]
  case call c =>
    have hargs : c.args.toList.map (ev e) = c.args.toList.map (ev e') := maps _ fun x hx => h x (by simp at hx; simp [Call.operands, hx])
    have hm : ∀ x, x ∈ c.args.toList → ev e x = ev e' x := fun x hx => h x (by simp at hx; simp [Call.operands, hx])
    rw [fb]
    cases hc : c.callee with
    | invoke x n => rfl
    | value f =>
      have hf : ev e f = ev e' f := h f (by simp [Call.operands, hc])
      simp only [hargs, hf]
    | builtin b =>
      cases b <;> simp only
      case append =>
        split
        · rename_i s x t t' ha ht
          rw [hm s (by rw [ha]; simp), hm x (by rw [ha]; simp)]
        · rfl
      case len =>
        split
        · rename_i x t ha ht
          rw [hm x (by rw [ha]; simp)]
        · rfl
      case clear =>
        split
        · rename_i x t ha ht
          rw [hm x (by rw [ha]; simp)]
        · rfl
  case load t x => rw [h x (by simp), fb]
  case store t x y => rw [h x (by simp), h y (by simp)]
  case nilCheck x => rw [h x (by simp), fb]
  case binOp op t x y yt => rw [h x (by simp), h y (by simp), fb]
  case fieldAddr t x i => rw [h x (by simp), fb]
  case indexAddr t x ix => rw [h x (by simp), h ix (by simp), fb]
  case lookup t x ix ok =>
    cases ok with
    | true => exact fb
    | false => simp only [h x (by simp), h ix (by simp)]
  case mapUpdate t x ix y => simp only [h x (by simp), h ix (by simp), h y (by simp)]
  all_goals first | rfl | exact fb | (simp_all; done)

/-! ### any order -/
abbrev V3t := HV × Wr × List Nat
instance : Inhabited V3t := ⟨(.undef, [], [])⟩
noncomputable def valI (C : Cfg2) (ops : Array Oper) (base i : Nat) (o : Oper) (e : List HV) (st : List Ob) : Option V3 := match want ops o e with
  | some true => opD C base i o e st some3'
  | some false => some (.tup [], [], [])
  | none => none

section
variable {C : Cfg2} {md : Region.Mode} {ops : Array Oper} {base : Nat} {T : Nat → V3} {Q : List HV → List Ob → Prop}

def anyX (C : Cfg2) (md : Region.Mode) (ops : Array Oper) (base : Nat) (T : Nat → V3) (Q : List HV → List Ob → Prop) : Nat → Array Bool → List HV → List Ob → Prop
  | 0, listed, e, st => Region.ready md ops listed = [] ∧ Q e st
  | fuel + 1, listed, e, st => (Region.ready md ops listed = [] → Q e st) ∧
    ∀ i ∈ Region.ready md ops listed, ∃ o, ops[i]? = some o ∧ valI C ops base i o e st = some (T i) ∧ anyX C md ops base T Q fuel (listed.setIfInBounds i true) (putE e o.dst (T i).1) (appl st (T i).2.1)
def textX (C : Cfg2) (ops : Array Oper) (base : Nat) (T : Nat → V3) (Q : List HV → List Ob → Prop) : List Oper → Nat → List HV → List Ob → Prop
  | [], _, e, st => Q e st
  | o :: l, i, e, st => valI C ops base i o e st = some (T i) ∧ textX C ops base T Q l (i + 1) (putE e o.dst (T i).1) (appl st (T i).2.1)

/-- Nothing that one writes is looked at or written by the other. -/
def PairOk (x y : V3) : Prop := (∀ i ∈ idsW x.2.1, i ∉ idsW y.2.1 ∧ i ∉ y.2.2) ∧ ∀ i ∈ idsW y.2.1, i ∉ x.2.2

theorem valI_put {o : Oper} {i : Nat} {e : List HV} {st : List Ob} {d : Option Nat} {v : HV} (h : ∀ t, d = some t → t ∉ o.looksAt ops) : valI C ops base i o (putE e d v) st = valI C ops base i o e st := by
  have h1 : want ops o (putE e d v) = want ops o e := by
    unfold want
    cases hg : o.guard with
    | none => rfl
    | some gw =>
      obtain ⟨j, w⟩ := gw
      simp only
      cases hj : ops[j]? with
      | none => rfl
      | some oj =>
        simp only
        cases hd : oj.dst with
        | none => rfl
        | some t =>
          simp only
          cases d with
          | none => rfl
          | some t' =>
            have hne : t' ≠ t := fun he => h t' rfl (by subst he; simp [Oper.looksAt, hg, hj, hd])
            simp [putE, List.getElem?_set, hne]
  have h2 : opD C base i o (putE e d v) st some3' = opD C base i o e st some3' := by
    unfold opD
    split
    · exact evOp2_congr fun x hx => ev_putE fun t ht hxt => h t ht (by
        subst hxt
        exact List.mem_append_left _ (List.mem_filterMap.2 ⟨.tmp t, by simpa using hx, rfl⟩))
    · rfl
  unfold valI
  rw [h1, h2]
theorem opD_some {C : Cfg2} {base i : Nat} {o : Oper} {e : List HV} {st : List Ob} {x : V3} (h : opD C base i o e st some3' = some x) : st[base + i]? = some .free ∧ ∃ rd, x.2.2 = (base + i) :: rd ∧ evOp2 C o e st (some (base + i)) some3' = some (x.1, x.2.1, rd) := by
  unfold opD at h
  split at h
  · rename_i hf
    rw [evOp2_u C o e st _ _ some3' (fun y => some (y.1, y.2.1, (base + i) :: y.2.2)) (fun v W rd => by simp only [some3', bnd_some])] at h
    obtain ⟨y, hy, h2⟩ := bnd_eq h
    injection h2 with h2
    subst h2
    exact ⟨hf, y.2.2, rfl, hy⟩
  · cases h
theorem opD_fp {C : Cfg2} {base i : Nat} {o : Oper} {e : List HV} {st st' : List Ob} {x : V3} (h : opD C base i o e st some3' = some x) (hl : st'.length = st.length) (hr : ∀ r ∈ x.2.2, st'[r]? = st[r]?) : opD C base i o e st' some3' = some x := by
  obtain ⟨hf, rd, hrd, hk⟩ := opD_some h
  rw [hrd] at hr
  have h1 := evOp2_fp hk hl (fun r hm => hr r (List.mem_cons_of_mem _ hm))
  unfold opD
  rw [hr _ (List.mem_cons_self ..), hf]
  simp only
  rw [evOp2_u C o e st' _ _ some3' (fun y => some (y.1, y.2.1, (base + i) :: y.2.2)) (fun v W rd => by simp only [some3', bnd_some]), h1, bnd_some]
  obtain ⟨v, W, rd'⟩ := x
  simp only at hrd
  rw [hrd]
theorem opD_u {β γ : Type} (C : Cfg2) (base i : Nat) (o : Oper) (e : List HV) (st : List Ob) (K : KO β) (F : KO γ) (H : γ → Option β) (hh : ∀ v W rd, K v W rd = bnd (F v W rd) H) : opD C base i o e st K = bnd (opD C base i o e st F) H := by
  unfold opD
  split
  · exact evOp2_u _ _ _ _ _ _ _ _ (fun v W rd => hh _ _ _)
  · simp only [bnd_none]
theorem valI_st {o : Oper} {i : Nat} {e : List HV} {st st' : List Ob} {x : V3} (h : valI C ops base i o e st = some x) (hl : st'.length = st.length) (hr : ∀ r ∈ x.2.2, st'[r]? = st[r]?) : valI C ops base i o e st' = some x := by
  unfold valI at h ⊢
  split
  · rename_i hw; rw [hw] at h; exact opD_fp h hl hr
  · rename_i hw; rw [hw] at h; exact h
  · rename_i hw; rw [hw] at h; cases h

/-- What is listed is listed with all ahead of it. -/
def DC (an : List (List Nat)) (listed : Array Bool) : Prop := ∀ j, listed.getD j false = true → ∀ i ∈ an.getD j [], listed.getD i false = true

theorem ready_anc {an : List (List Nat)} (hAn : ancOk ops an = true) {listed : Array Bool} (hD : DC an listed) {j : Nat} (hj : j ∈ Region.ready .any ops listed) : ∀ i ∈ an.getD j [], listed.getD i false = true := by
  intro i hi
  obtain ⟨_, o, ho, hall⟩ := mem_ready.1 hj
  unfold ancOk at hAn
  have h1 := List.all_eq_true.1 hAn j (List.mem_range.2 (Array.getElem?_eq_some_iff.1 ho).1)
  simp only [ho] at h1
  have h2 := List.all_eq_true.1 h1 i hi
  obtain ⟨k, hk, h3⟩ := List.any_eq_true.1 h2
  obtain ⟨x, hx, rfl⟩ := List.mem_map.1 hk
  obtain ⟨hx1, hx2⟩ := List.mem_filter.1 hx
  have hl := hall x (by simpa using hx1) hx2
  simp only [Bool.or_eq_true, beq_iff_eq] at h3
  rcases h3 with h3 | h3
  · rw [← h3]; exact hl
  · exact hD _ hl i (by simpa using h3)
theorem DC.set {an : List (List Nat)} (hAn : ancOk ops an = true) {listed : Array Bool} (hD : DC an listed) {j : Nat} (hj : j ∈ Region.ready .any ops listed) : DC an (listed.setIfInBounds j true) := by
  intro k hk i hi
  by_cases hkj : j = k
  · subst hkj
    exact getD_set_true (ready_anc hAn hD hj i hi)
  · rw [getD_set_ne false hkj] at hk
    exact getD_set_true (hD k hk i hi)

theorem anyX_first {an : List (List Nat)} (hAn : ancOk ops an = true) {n : Nat} (hB : ∀ j oj, ops[j]? = some oj → ∀ i ∈ idsW (T j).2.1, i < n) {i : Nat} {oi : Oper} (hi : ops[i]? = some oi) : ∀ (fuel : Nat) (listed : Array Bool) (e : List HV) (st : List Ob), st.length = n → DC an listed →
    (∀ j oj, ops[j]? = some oj → j ≠ i → listed.getD j true = false → (∀ x ∈ oj.after, Region.binds .any x = true → x.on ≠ i) → oi.apart ops oj = true) →
    (∀ j oj, ops[j]? = some oj → j ≠ i → i ∈ an.getD j [] ∨ j ∈ an.getD i [] ∨ (PairOk (T i) (T j) ∧ PairOk (T j) (T i))) →
    i ∈ Region.ready .any ops listed → valI C ops base i oi e st = some (T i) → anyX C .any ops base T Q fuel (listed.setIfInBounds i true) (putE e oi.dst (T i).1) (appl st (T i).2.1) → anyX C .any ops base T Q (fuel + 1) listed e st := by
  intro fuel
  induction fuel with
  | zero =>
    intro listed e st _ _ _ _ hr hy H
    refine ⟨fun h => (by rw [h] at hr; cases hr), fun j hj => ?_⟩
    by_cases hji : j = i
    · subst hji; exact ⟨oi, hi, hy, H⟩
    · have := ready_mono hj hji
      rw [H.1] at this
      cases this
  | succ fuel ih =>
    intro listed e st hlen hD hfree hpair hr hy H
    refine ⟨fun h => (by rw [h] at hr; cases hr), fun j hj => ?_⟩
    by_cases hji : j = i
    · subst hji; exact ⟨oi, hi, hy, H⟩
    · obtain ⟨oj, hoj, hu, hH⟩ := H.2 j (ready_mono hj hji)
      obtain ⟨hjun, oj', hoj', hall⟩ := mem_ready.1 hj
      rw [hoj] at hoj'
      cases hoj'
      have unl : ∀ k, listed.getD k true = false → listed.getD k false = true → False := fun k h0 h1 => by
        rcases Nat.lt_or_ge k listed.size with h' | h'
        · simp [h'] at h0 h1; rw [h0] at h1; cases h1
        · simp [Array.getElem?_eq_none h'] at h1
      have hiun := (mem_ready.1 hr).1
      have hnot : ∀ x ∈ oj.after, Region.binds .any x = true → x.on ≠ i := fun x hx hb heq => unl i hiun (heq ▸ hall x hx hb)
      obtain ⟨k1, k2, k3⟩ := Oper.apart_spec (hfree j oj hoj hji hjun hnot)
      have hp : PairOk (T i) (T j) ∧ PairOk (T j) (T i) := by
        rcases hpair j oj hoj hji with h | h | h
        · exact (unl i hiun (ready_anc hAn hD hj i h)).elim
        · exact (unl j hjun (ready_anc hAn hD hr j h)).elim
        · exact h
      have bi := hB i oi hi
      have bj := hB j oj hoj
      rw [valI_put k1] at hu
      have hu' := valI_st (st' := st) hu (by rw [appl_len (by rw [hlen]; exact bi)]) (fun r hr' => (appl_none (by rw [hlen]; exact bi) (fun hm => (hp.1.1 r hm).2 hr')).symm)
      refine ⟨oj, hoj, hu', ?_⟩
      have hfree' : ∀ k ok, ops[k]? = some ok → k ≠ i → (listed.setIfInBounds j true).getD k true = false →
          (∀ x ∈ ok.after, Region.binds .any x = true → x.on ≠ i) → oi.apart ops ok = true := fun k ok hk hki hun hno => by
        refine hfree k ok hk hki ?_ hno
        by_cases hjk : j = k
        · subst hjk; exact hjun
        · rw [getD_set_ne true hjk] at hun; exact hun
      have hy' : valI C ops base i oi e (appl st (T j).2.1) = some (T i) := valI_st hy (by rw [appl_len (by rw [hlen]; exact bj)]) (fun r hr' => appl_none (by rw [hlen]; exact bj) (fun hm => (hp.2.1 r hm).2 hr'))
      refine ih (listed.setIfInBounds j true) _ _ (by rw [appl_len (by rw [hlen]; exact bj), hlen]) (hD.set hAn hj) hfree' hpair (ready_mono hr (Ne.symm hji)) (by rw [valI_put k3]; exact hy') ?_
      rw [Array.setIfInBounds_comm _ _ hji, ← putE_comm e _ _ k2, ← appl_comm (by rw [hlen]; exact bi) (by rw [hlen]; exact bj) (fun x hx => (hp.1.1 x hx).1)]
      exact hH

theorem anyX_lex {an : List (List Nat)} (hAn : ancOk ops an = true) {n : Nat} (hB : ∀ j oj, ops[j]? = some oj → ∀ i ∈ idsW (T j).2.1, i < n)
    (hpair : ∀ i j oi oj, ops[i]? = some oi → ops[j]? = some oj → j ≠ i → i ∈ an.getD j [] ∨ j ∈ an.getD i [] ∨ (PairOk (T i) (T j) ∧ PairOk (T j) (T i))) : ∀ (l : List Oper) (k : Nat) (listed : Array Bool) (e : List HV) (st : List Ob), st.length = n → DC an listed → (∀ j, l[j]? = ops[k + j]?) → Region.lexFrom .any ops l.length k listed = true → textX C ops base T Q l k e st → anyX C .any ops base T Q l.length listed e st
  | [], _, _, _, _, _, _, _, hL, h => ⟨by simpa [Region.lexFrom] using hL, h⟩
  | o :: l, k, listed, e, st, hlen, hD, hl, hL, h => by
    have h0 : ops[k]? = some o := by simpa using (hl 0).symm
    simp only [List.length_cons, Region.lexFrom, Bool.and_eq_true] at hL
    obtain ⟨⟨hr, hf⟩, hL'⟩ := hL
    obtain ⟨hy, hK⟩ := h
    have hr : k ∈ Region.ready .any ops listed := by simpa using hr
    exact anyX_first hAn hB h0 l.length listed e st hlen hD (Region.free_spec h0 hf) (fun j oj hj hne => hpair k j o oj h0 hj hne) hr hy
      (anyX_lex hAn hB hpair l (k + 1) _ _ _ (by rw [appl_len (by rw [hlen]; exact hB k o h0), hlen]) (hD.set hAn hr) (fun j => by have := hl (j + 1); simpa [Nat.add_assoc, Nat.add_comm 1 j] using this) hL' hK)
end

/-! ### the text's order tells the answers -/
theorem put_eq' {β : Type} (e : List HV) (d : Option Nat) (v : HV) (K : List HV → Option β) : put e d v K = K (putE e d v) := by
  cases d <;> simp [put, setK_eq, putE]
def textL (C : Cfg2) (ops : Array Oper) (base : Nat) (Q : List HV → List Ob → Prop) : List Oper → Nat → List HV → List Ob → List V3 → Prop
  | [], _, e, st, xs => xs = [] ∧ Q e st
  | o :: l, i, e, st, xs => ∃ x t, xs = x :: t ∧ valI C ops base i o e st = some x ∧ textL C ops base Q l (i + 1) (putE e o.dst x.1) (appl st x.2.1) t
def fpsL : Nat → List V3 → Fp
  | _, [] => []
  | i, x :: t => (i, idsW x.2.1, x.2.2) :: fpsL (i + 1) t
theorem evOpsD_text {β : Type} {C : Cfg2} {ops : Array Oper} {base : Nat} {K : List HV → List Ob → Fp → Option β} {r : β} : ∀ (l : List Oper) (i : Nat) (e : List HV) (st : List Ob) (fp : Fp), evOpsD C ops base l i e st fp K = some r → ∃ xs, textL C ops base (fun e st => K e st (fp ++ fpsL i xs) = some r) l i e st xs
  | [], i, e, st, fp, h => ⟨[], rfl, by have h : K e st fp = some r := h; simpa [fpsL] using h⟩
  | o :: l, i, e, st, fp, h => by
    have step : ∀ e, (opD C base i o e st fun v W rd => put e o.dst v fun e => evOpsD C ops base l (i + 1) e (appl st W) (fp ++ [(i, W.map (·.1), rd)]) K) = some r → ∃ x, opD C base i o e st some3' = some x ∧ ∃ xs, textL C ops base (fun e st => K e st (fp ++ fpsL i (x :: xs)) = some r) l (i + 1) (putE e o.dst x.1) (appl st x.2.1) xs := by
      intro e h
      rw [opD_u C base i o e st _ some3' (fun x => put e o.dst x.1 fun e => evOpsD C ops base l (i + 1) e (appl st x.2.1) (fp ++ [(i, x.2.1.map (·.1), x.2.2)]) K) (fun v W rd => by simp only [some3', bnd_some])] at h
      obtain ⟨x, hx, h2⟩ := bnd_eq h
      rw [put_eq'] at h2
      obtain ⟨xs, h3⟩ := evOpsD_text l (i + 1) _ _ _ h2
      refine ⟨x, hx, xs, ?_⟩
      simpa [fpsL, idsW] using h3
    have skip : ∀ e, (put e o.dst (.tup []) fun e => evOpsD C ops base l (i + 1) e st (fp ++ [(i, [], [])]) K) = some r → ∃ xs, textL C ops base (fun e st => K e st (fp ++ fpsL i (((.tup [], [], []) : V3) :: xs)) = some r) l (i + 1) (putE e o.dst (.tup [])) st xs := by
      intro e h
      rw [put_eq'] at h
      obtain ⟨xs, h3⟩ := evOpsD_text l (i + 1) _ _ _ h
      exact ⟨xs, by simpa [fpsL, idsW] using h3⟩
    unfold evOpsD at h
    split at h
    · rename_i hg
      have hw : want ops o e = some true := by unfold want; rw [hg]
      obtain ⟨x, hx, xs, h3⟩ := step e h
      exact ⟨x :: xs, x, xs, rfl, by unfold valI; rw [hw]; exact hx, h3⟩
    · rename_i j w hg
      split at h
      · rename_i oj hj
        split at h
        · rename_i d hd
          split at h
          · rename_i b hb
            have hw : want ops o e = some (b == w) := by unfold want; simp only [hg, hj, hd, hb]
            have he : e.set d (.bool b) = e := set_same hb
            rcases br_some h with ⟨h1, h2⟩ | ⟨h1, h2⟩
            · subst h1
              rw [setK_eq, he] at h2
              rcases br_some h2 with ⟨h3, h4⟩ | ⟨h3, h4⟩
              · subst h3
                obtain ⟨x, hx, xs, h5⟩ := step e h4
                exact ⟨x :: xs, x, xs, rfl, by unfold valI; rw [hw]; exact hx, h5⟩
              · subst h3
                obtain ⟨xs, h5⟩ := skip e h4
                exact ⟨_ :: xs, _, xs, rfl, by unfold valI; rw [hw]; rfl, h5⟩
            · subst h1
              rw [setK_eq, he] at h2
              rcases br_some h2 with ⟨h3, h4⟩ | ⟨h3, h4⟩
              · subst h3
                obtain ⟨xs, h5⟩ := skip e h4
                exact ⟨_ :: xs, _, xs, rfl, by unfold valI; rw [hw]; rfl, h5⟩
              · subst h3
                obtain ⟨x, hx, xs, h5⟩ := step e h4
                exact ⟨x :: xs, x, xs, rfl, by unfold valI; rw [hw]; exact hx, h5⟩
          · rename_i hb
            have hw : want ops o e = some false := by unfold want; simp only [hg, hj, hd, hb]
            obtain ⟨xs, h5⟩ := skip e h
            exact ⟨_ :: xs, _, xs, rfl, by unfold valI; rw [hw], h5⟩
          · cases h
        · cases h
      · cases h
theorem textL_len {C : Cfg2} {ops : Array Oper} {base : Nat} {Q : List HV → List Ob → Prop} : ∀ {l : List Oper} {i : Nat} {e : List HV} {st : List Ob} {xs : List V3}, textL C ops base Q l i e st xs → xs.length = l.length
  | [], _, _, _, _, h => by rw [h.1]; rfl
  | o :: l, _, _, _, _, h => by obtain ⟨x, t, rfl, _, h⟩ := h; simp [textL_len h]
theorem textX_of {C : Cfg2} {ops : Array Oper} {base : Nat} {Q : List HV → List Ob → Prop} {T : Nat → V3} : ∀ {l : List Oper} {i : Nat} {e : List HV} {st : List Ob} {xs : List V3}, textL C ops base Q l i e st xs → (∀ j x, xs[j]? = some x → T (i + j) = x) → textX C ops base T Q l i e st
  | [], _, _, _, _, h, _ => h.2
  | o :: l, i, _, _, _, h, hT => by
    obtain ⟨x, t, rfl, hv, h⟩ := h
    have hx : T i = x := by have := hT 0 x rfl; simpa using this
    refine ⟨by rw [hx]; exact hv, ?_⟩
    rw [hx]
    exact textX_of h (fun j y hy => by have := hT (j + 1) y (by simpa using hy); rw [← this]; congr 1; omega)
theorem fpsL_mem {xs : List V3} : ∀ {i j : Nat} {x : V3}, xs[j]? = some x → (i + j, idsW x.2.1, x.2.2) ∈ fpsL i xs := by
  induction xs with
  | nil => intro i j x h; simp at h
  | cons y t ih =>
    intro i j x h
    cases j with
    | zero => simp at h; subst h; simp [fpsL]
    | succ j =>
      simp at h
      have := ih (i := i + 1) h
      simp only [fpsL, List.mem_cons]
      right
      rw [show i + (j + 1) = i + 1 + j from by omega]
      exact this
theorem apartL_iff {a b : List Nat} : apartL a b = true ↔ ∀ x ∈ a, x ∉ b := by simp [apartL]
theorem fpOk_pair {n : Nat} {an : List (List Nat)} {xs : List V3} (h : fpOk n an (fpsL 0 xs) = true) : (∀ (j : Nat) (x : V3), xs[j]? = some x → ∀ i ∈ idsW x.2.1, i < n) ∧ ∀ (i j : Nat) (x y : V3), xs[i]? = some x → xs[j]? = some y → j ≠ i → i ∈ an.getD j [] ∨ j ∈ an.getD i [] ∨ (PairOk x y ∧ PairOk y x) := by
  unfold fpOk at h
  rw [Bool.and_eq_true] at h
  obtain ⟨h1, h2⟩ := h
  refine ⟨fun j x hx i hi => ?_, fun i j x y hx hy hne => ?_⟩
  · have := List.all_eq_true.1 h1 _ (fpsL_mem (i := 0) hx)
    have := List.all_eq_true.1 this i hi
    simpa using this
  · have half : ∀ i j (x y : V3), xs[i]? = some x → xs[j]? = some y → j ≠ i → i ∈ an.getD j [] ∨ j ∈ an.getD i [] ∨ ∀ k ∈ idsW x.2.1, k ∉ idsW y.2.1 ∧ k ∉ y.2.2 := by
      intro i j x y hx hy hne
      have h3 := List.all_eq_true.1 h2 _ (fpsL_mem (i := 0) hx)
      simp only [Bool.or_eq_true, List.isEmpty_iff] at h3
      rcases h3 with h3 | h3
      · right; right
        intro k hk
        rw [h3] at hk
        cases hk
      · have h4 := List.all_eq_true.1 h3 _ (fpsL_mem (i := 0) hy)
        simp only [Bool.or_eq_true, beq_iff_eq, Bool.and_eq_true, Nat.zero_add, List.elem_iff] at h4
        rcases h4 with ((h4 | h4) | h4) | ⟨h4, h5⟩
        · exact (hne h4.symm).elim
        · exact .inl h4
        · exact .inr (.inl h4)
        · exact .inr (.inr fun k hk => ⟨apartL_iff.1 h4 k hk, apartL_iff.1 h5 k hk⟩)
    rcases half i j x y hx hy hne with a | a | a
    · exact .inl a
    · exact .inr (.inl a)
    · rcases half j i y x hy hx (Ne.symm hne) with b | b | b
      · exact .inr (.inl b)
      · exact .inl b
      · exact .inr (.inr ⟨⟨a, fun k hk => (b k hk).2⟩, ⟨b, fun k hk => (a k hk).2⟩⟩)
end Go.Eng
end

section
namespace Go.Eng
open Go.RowKit
set_option linter.unusedVariables false
set_option linter.unusedSimpArgs false

section
variable {P : Program} {G : Gx} {st : List Ob} {w : World} {a : Act} {e : List HV}

theorem St.drew (h : St P G st w) : St P G st w.drew ∧ Mono G w G w.drew ∧ ∀ n, Fr n G w G w.drew :=
  h.grow (S' := G.S) ((Below.refl _ _).drew) (fun _ _ h => h) (fun _ _ h => .inl h) h.slt
theorem St.frees (h : St P G st w) (n : Nat) : St P G (st ++ List.replicate n .free) w := by
  have lv : ∀ r, live (st ++ List.replicate n .free) r → live st r := fun r hr => by
    unfold live at hr ⊢
    rw [List.getElem?_append] at hr
    split at hr
    · exact hr
    · rw [List.getElem?_replicate] at hr
      split at hr <;> cases hr
  refine { obj := fun id o ho => ?_, rlt := fun r g hr => by have := h.rlt _ _ hr; simp; omega, tlt := fun r g hr => by have := h.tlt _ _ hr; simp; omega, llt := fun r s n hr => by have := h.llt _ _ _ hr; simp; omega, rfun := h.rfun, tfun := h.tfun, lfun := h.lfun, rinj := fun r r' g l1 l2 h1 h2 => h.rinj _ _ _ (lv _ l1) (lv _ l2) h1 h2, rold := h.rold, slt := h.slt }
  rw [List.getElem?_append] at ho
  split at ho
  · exact h.obj _ _ ho
  · rename_i hge
    rw [List.getElem?_replicate] at ho
    split at ho
    · injection ho with ho
      subst ho
      exact ⟨fun g hr => by have := h.rlt _ _ hr; omega, fun g hr => by have := h.tlt _ _ hr; omega, fun s n hr => by have := h.llt _ _ _ hr; omega⟩
    · cases ho

theorem tmps_of2 (hE : RepE2 G w e a) {d : Nat} {b : Bool} (h : e[d]? = some (.bool b)) : a.tmps[d]? = some (.bool b) := by
  have h1 := hE.2 d
  rw [List.getD_eq_getElem?_getD, h] at h1
  have h2 := h1.bool_inv
  have hlt : d < a.tmps.size := by rw [← hE.1]; exact (List.getElem?_eq_some_iff.1 h).1
  rw [Array.getD_eq_getD_getElem?] at h2
  rw [Array.getElem?_eq_getElem hlt] at h2 ⊢
  simpa using h2
theorem tup_nil2 {v : Value} (h : RepX G w (.tup []) v) : v = Go.undef := by
  obtain ⟨us, rfl, h2⟩ := h.tup_inv
  cases h2
  rfl
theorem nil_tup2 : RepX G w (.tup []) Go.undef := .tup [] [] .nil
theorem wanted_of2 {ops : Array Oper} {o : Oper} {b : Bool} (hE : RepE2 G w e a) (h : want ops o e = some b) : Region.wanted o (yielded ops a.tmps) = b := by
  unfold want at h
  unfold Region.wanted
  split at h
  · rename_i hg; rw [hg]; injection h
  · rename_i j wt hg
    rw [hg]
    split at h
    · rename_i oj hj
      split at h
      · rename_i d hd
        split at h
        · rename_i b' hb
          injection h with h
          have : yielded ops a.tmps j = some b' := by
            unfold yielded
            simp [hj, hd, tmps_of2 hE hb]
          simp only [this]
          rw [← h]
          cases b' <;> cases wt <;> rfl
        · rename_i hb
          injection h with h
          have : yielded ops a.tmps j = none := by
            unfold yielded
            have h1 := hE.2 d
            rw [List.getD_eq_getElem?_getD, hb] at h1
            have h2 := tup_nil2 h1
            have hlt : d < a.tmps.size := by rw [← hE.1]; exact (List.getElem?_eq_some_iff.1 hb).1
            rw [Array.getD_eq_getD_getElem?, Array.getElem?_eq_getElem hlt] at h2
            have h3 : a.tmps[d]? = some Go.undef := by rw [Array.getElem?_eq_getElem hlt]; simpa using h2
            simp [hj, hd, h3, Go.undef]
          simp only [this]
          rw [← h]
          cases wt <;> rfl
        · cases h
      · cases h
    · cases h
theorem put_def (a : Act) (d : Option Nat) (v : Value) : (a.put d v).defers = a.defers := by cases d <;> rfl

theorem wpOp_ofX {C : Cfg2} (hC : CfgOk C) {ops : Array Oper} {o : Oper} {base i : Nat} {x : V3} {Q : Exit → Act → World → Prop} {K : Act → World → Prop} (ho : ops[i]? = some o) (hI : St C.P G st w) (hE : RepE2 G w e a) (hd : a.defers = [])
    (hv : valI C ops base i o e st = some x) (hK : ∀ (G' : Gx) (a' : Act) (w' : World), St C.P G' (appl st x.2.1) w' → RepE2 G' w' (putE e o.dst x.1) a' → a'.defers = [] → (∀ n, Fr n G w G' w') → K a' w') : wpOp C.P ops Q i K a w := by
  unfold wpOp
  simp only [ho]
  unfold valI at hv
  split at hv
  · rename_i hw
    rw [wanted_of2 hE hw]
    simp only [if_true]
    obtain ⟨hf, rd, _, hk⟩ := opD_some hv
    refine .inl (Oper.wp_mono ?_ (evOp2_sound hC hI hE (fun id hid => by injection hid with hid; subst hid; exact hf) hk))
    rintro a' w' ⟨hv', u, W, rd', G', h1, h2, h3, h4, h5, h6⟩
    simp only [some3', Option.some.injEq, Prod.mk.injEq] at h1
    obtain ⟨rfl, rfl, _⟩ := h1
    exact hK G' a' w' h3 (by rw [h2]; exact (hE.mono h4).putE _ h6) (by rw [h2, put_def]; exact hd) h5
  · rename_i hw
    rw [wanted_of2 hE hw]
    injection hv with hv
    subst hv
    simp only [Bool.false_eq_true, if_false]
    exact hK G _ w hI (hE.putE _ nil_tup2) (by rw [put_def]; exact hd) (fun n => Fr.refl _ _ _)
  · cases hv

theorem any_soundX {C : Cfg2} (hC : CfgOk C) {md : Region.Mode} {ops : Array Oper} {base : Nat} {T : Nat → V3} {Qe : List HV → List Ob → Prop} {Q : Exit → Act → World → Prop} {n : Nat} {G0 : Gx} {w0 : World}
    (hQ : ∀ (e' : List HV) (st' : List Ob) (a' : Act) (w' : World) (G' : Gx), Qe e' st' → St C.P G' st' w' → RepE2 G' w' e' a' → a'.defers = [] → Fr n G0 w0 G' w' → Q .normal a' w') :
    ∀ (fuel : Nat) (listed : Array Bool) (e : List HV) (st : List Ob) (a : Act) (w : World) (G : Gx), St C.P G st w → RepE2 G w e a → a.defers = [] → Fr n G0 w0 G w → anyX C md ops base T Qe fuel listed e st → wpAny C.P md ops Q fuel listed a w := by
  intro fuel
  induction fuel with
  | zero => intro listed e st a w G hI hE hd hf h; exact ⟨h.1, hQ _ _ _ _ _ h.2 hI hE hd hf⟩
  | succ fuel ih =>
    intro listed e st a w G hI hE hd hf h
    refine ⟨fun h0 => hQ _ _ _ _ _ (h.1 h0) hI hE hd hf, fun i hi => ?_⟩
    obtain ⟨o, ho, hv, hn⟩ := h.2 i hi
    exact wpOp_ofX hC ho hI hE hd hv fun G' a' w' h1 h2 h3 h4 => ih _ _ _ _ _ _ h1 h2 h3 (hf.trans (h4 n)) hn

/-- A drawn region. -/
theorem region_drawX {β : Type} {C : Cfg2} (hC : CfgOk C) (hm : C.P.follows .mixedOrders = true) {id : Nat} {ops : Array Oper} (hl : Region.lexFrom .any ops ops.size 0 (Array.replicate ops.size false) = true) (hAn : ancOk ops (ancT ops) = true) {K : List HV → List Ob → Option β} {r : β}
    {Q : Exit → Act → World → Prop} {n : Nat} {G0 : Gx} {w0 : World} (hI : St C.P G st w) (hE : RepE2 G w e a) (hd : a.defers = []) (hf : Fr n G0 w0 G w) (hk : evOpsD C ops st.length ops.toList 0 e (st ++ List.replicate ops.size .free) [] (fun e st' fp => brs (fpOk (st.length + ops.size) (ancT ops) fp) (K e st') none) = some r)
    (hQ : ∀ (e' : List HV) (st' : List Ob) (a' : Act) (w' : World) (G' : Gx), K e' st' = some r → St C.P G' st' w' → RepE2 G' w' e' a' → a'.defers = [] → Fr n G0 w0 G' w' → Q .normal a' w') : (Code.region id ops true).wp C.P Q a w := by
  refine wp_region_any hm ?_
  obtain ⟨h1, g, f⟩ := hI.drew
  obtain ⟨xs, hx⟩ := evOpsD_text _ _ _ _ _ hk
  have hlen := textL_len hx
  let T : Nat → V3 := fun j => xs.getD j (.undef, [], [])
  have hT : ∀ j x, xs[j]? = some x → T (0 + j) = x := fun j x h => by simp [T, List.getD_eq_getElem?_getD, h]
  have hxT := textX_of (T := T) hx hT
  -- the check holds
  have hfp : fpOk (st.length + ops.size) (ancT ops) (fpsL 0 xs) = true := by
    have : ∀ {l : List Oper} {i : Nat} {e : List HV} {s : List Ob}, textX C ops st.length T (fun e st' => brs (fpOk (st.length + ops.size) (ancT ops) ([] ++ fpsL 0 xs)) (K e st') none = some r) l i e s → fpOk (st.length + ops.size) (ancT ops) (fpsL 0 xs) = true := by
      intro l
      induction l with
      | nil => intro i e s h; have h : brs (fpOk (st.length + ops.size) (ancT ops) ([] ++ fpsL 0 xs)) (K e s) none = some r := h; exact (br_none h).1
      | cons o l ih => intro i e s h; exact ih h.2
    exact this hxT
  obtain ⟨hB, hP⟩ := fpOk_pair hfp
  have at_ : ∀ j oj, ops[j]? = some oj → xs[j]? = some (T j) := fun j oj h => by
    have hj : j < xs.length := by rw [hlen]; simpa using (Array.getElem?_eq_some_iff.1 h).1
    simp [T, List.getD_eq_getElem?_getD, List.getElem?_eq_getElem hj]
  have hany := anyX_lex (C := C) (ops := ops) (base := st.length) (T := T) (n := st.length + ops.size) hAn (fun j oj h => hB j _ (at_ j oj h)) (fun i j oi oj h1 h2 hne => hP i j _ _ (at_ i oi h1) (at_ j oj h2) hne) ops.toList 0 (Array.replicate ops.size false) e (st ++ List.replicate ops.size .free) (by simp)
    (fun j hj => by
      rcases Nat.lt_or_ge j ops.size with h | h
      · simp [h] at hj
      · simp [Array.getElem?_eq_none (show (Array.replicate ops.size false).size ≤ j by simpa using h)] at hj) (by simp) (by simpa using hl) hxT
  simp only [Array.length_toList] at hany
  refine any_soundX hC (Qe := fun e st' => brs (fpOk (st.length + ops.size) (ancT ops) ([] ++ fpsL 0 xs)) (K e st') none = some r) (fun e' st' a' w' G' hq h1 h2 h3 h4 => hQ e' st' a' w' G' (br_none hq).2 h1 h2 h3 h4) ops.size _ e _ a _ G (h1.frees _) (hE.mono g) hd (hf.trans (f n)) hany

/-- A region in the text's order. -/
theorem ops_soundX {β : Type} {C : Cfg2} (hC : CfgOk C) {ops : Array Oper} {K : List HV → List Ob → Option β} {r : β} {Q : Exit → Act → World → Prop} {n : Nat} {G0 : Gx} {w0 : World}
    (hQ : ∀ (e' : List HV) (st' : List Ob) (a' : Act) (w' : World) (G' : Gx), K e' st' = some r → St C.P G' st' w' → RepE2 G' w' e' a' → a'.defers = [] → Fr n G0 w0 G' w' → Q .normal a' w') :
    ∀ (l : List Oper) (k : Nat) (e : List HV) (st : List Ob) (a : Act) (w : World) (G : Gx), (∀ j, l[j]? = ops[k + j]?) → St C.P G st w → RepE2 G w e a → a.defers = [] → Fr n G0 w0 G w → evOps2 C ops l e st K = some r → wpOps C.P ops Q (List.range' k l.length) a w := by
  intro l
  induction l with
  | nil => intro k e st a w G _ hI hE hd hf hk; exact hQ _ _ _ _ _ hk hI hE hd hf
  | cons o l ih =>
    intro k e st a w G hl hI hE hd hf hk
    have h0 : ops[k]? = some o := by simpa using (hl 0).symm
    have hl' : ∀ j, l[j]? = ops[k + 1 + j]? := fun j => by have := hl (j + 1); simpa [Nat.add_assoc, Nat.add_comm 1 j] using this
    have step : ∀ e, RepE2 G w e a → (evOp2 C o e st none fun v W _ => put e o.dst v fun e => evOps2 C ops l e (appl st W) K) = some r → o.wp C.P a w (wpOps C.P ops Q (List.range' (k + 1) l.length)) Q := by
      intro e hE h
      refine Oper.wp_mono ?_ (evOp2_sound hC hI hE (fun id hid => by cases hid) h)
      rintro a' w' ⟨hv', u, W, rd, G', h1, h2, h3, h4, h5, h6⟩
      simp only [put_eq'] at h1
      have hE' := (hE.mono h4).putE o.dst h6
      rw [← h2] at hE'
      exact ih (k + 1) _ _ a' w' G' hl' h3 hE' (by rw [h2, put_def]; exact hd) (hf.trans (h5 n)) h1
    have skip : ∀ e, RepE2 G w e a → (put e o.dst (.tup []) fun e => evOps2 C ops l e st K) = some r → wpOps C.P ops Q (List.range' (k + 1) l.length) (a.put o.dst Go.undef) w := by
      intro e hE h
      rw [put_eq'] at h
      exact ih (k + 1) _ st _ w G hl' hI (hE.putE o.dst nil_tup2) (by rw [put_def]; exact hd) hf h
    rw [List.length_cons, List.range'_succ, wpOps_cons]
    unfold wpOp
    simp only [h0]
    have fin : ∀ b, Region.wanted o (yielded ops a.tmps) = b → (b = true → o.wp C.P a w (wpOps C.P ops Q (List.range' (k + 1) l.length)) Q) → (b = false → wpOps C.P ops Q (List.range' (k + 1) l.length) (a.put o.dst Go.undef) w) →
        if Region.wanted o (yielded ops a.tmps) = true then o.wp C.P a w (wpOps C.P ops Q (List.range' (k + 1) l.length)) Q ∨ (o.asks C.P a w ∧ LetsOut Q) else wpOps C.P ops Q (List.range' (k + 1) l.length) (a.put o.dst Go.undef) w := by
      intro b hb h1 h2
      rw [hb]
      cases b with
      | true => exact .inl (h1 rfl)
      | false => exact h2 rfl
    unfold evOps2 at hk
    split at hk
    · rename_i hg
      have hw : want ops o e = some true := by unfold want; rw [hg]
      exact fin true (wanted_of2 hE hw) (fun _ => step e hE hk) (fun h => by cases h)
    · rename_i j wt hg
      split at hk
      · rename_i oj hj
        split at hk
        · rename_i d hdd
          split at hk
          · rename_i b hb
            have hw : want ops o e = some (b == wt) := by unfold want; simp only [hg, hj, hdd, hb]
            have he : e.set d (.bool b) = e := set_same hb
            refine fin _ (wanted_of2 hE hw) ?_ ?_
            · intro hbw
              rcases br_some hk with ⟨h1, h2⟩ | ⟨h1, h2⟩
              · subst h1
                rw [setK_eq, he] at h2
                cases wt with
                | true => rw [brs_eq, br_true] at h2; exact step e hE h2
                | false => cases hbw
              · subst h1
                rw [setK_eq, he] at h2
                cases wt with
                | true => cases hbw
                | false => rw [brs_eq, br_false] at h2; exact step e hE h2
            · intro hbw
              rcases br_some hk with ⟨h1, h2⟩ | ⟨h1, h2⟩
              · subst h1
                rw [setK_eq, he] at h2
                cases wt with
                | true => cases hbw
                | false => rw [brs_eq, br_false] at h2; exact skip e hE h2
              · subst h1
                rw [setK_eq, he] at h2
                cases wt with
                | true => rw [brs_eq, br_true] at h2; exact skip e hE h2
                | false => cases hbw
          · rename_i hb
            have hw : want ops o e = some false := by unfold want; simp only [hg, hj, hdd, hb]
            exact fin false (wanted_of2 hE hw) (fun h => by cases h) (fun _ => skip e hE hk)
          · cases hk
        · cases hk
      · cases hk

/-! ### slots let go, things under other names -/
def maskL : Nat → List Nat → List HV → List HV
  | _, _, [] => []
  | i, [], _ :: hs => .undef :: maskL (i + 1) [] hs
  | i, k :: ks, h :: hs => match k == i with
    | true => h :: maskL (i + 1) ks hs
    | false => .undef :: maskL (i + 1) (k :: ks) hs
theorem maskK_eq {β : Type} : ∀ (hs : List HV) (i : Nat) (ks : List Nat) (K : List HV → Option β), maskK i ks hs K = K (maskL i ks hs)
  | [], i, ks, K => by cases ks <;> rfl
  | h :: hs, i, [], K => by simp only [maskK, maskK_eq hs, maskL]
  | h :: hs, i, k :: ks, K => by
    simp only [maskK, maskL]
    cases k == i <;> simp only [maskK_eq hs]
theorem maskL_len : ∀ (hs : List HV) (i : Nat) (ks : List Nat), (maskL i ks hs).length = hs.length
  | [], i, ks => by cases ks <;> rfl
  | h :: hs, i, [] => by simp [maskL, maskL_len hs]
  | h :: hs, i, k :: ks => by simp only [maskL]; split <;> simp [maskL_len hs]
theorem maskL_get : ∀ (hs : List HV) (i : Nat) (ks : List Nat) (j : Nat), (maskL i ks hs).getD j .undef = hs.getD j .undef ∨ (maskL i ks hs).getD j .undef = .undef
  | [], i, ks, j => by cases ks <;> exact .inl rfl
  | h :: hs, i, [], j => by
    cases j with
    | zero => exact .inr rfl
    | succ j => have := maskL_get hs (i + 1) [] j; simpa [maskL, List.getD_eq_getElem?_getD] using this
  | h :: hs, i, k :: ks, j => by
    simp only [maskL]
    split
    · cases j with
      | zero => exact .inl rfl
      | succ j => have := maskL_get hs (i + 1) ks j; simpa [List.getD_eq_getElem?_getD] using this
    · cases j with
      | zero => exact .inr rfl
      | succ j => have := maskL_get hs (i + 1) (k :: ks) j; simpa [List.getD_eq_getElem?_getD] using this
theorem RepE2.mask (hE : RepE2 G w e a) (ks : List Nat) : RepE2 G w (maskL 0 ks e) a := by
  refine ⟨by rw [maskL_len]; exact hE.1, fun i => ?_⟩
  rcases maskL_get e 0 ks i with h | h
  · rw [h]; exact hE.2 i
  · rw [h]; exact .undef _
theorem RepE2.ren (hE : RepE2 G w e a) {ρ : Nat → Option Nat} {G' : Gx} {w' : World} (k : RenOk ρ G w G' w') (d : Nat) : RepE2 G' w' (e.map (Eng.ren ρ d)) a := by
  refine ⟨by simpa using hE.1, fun i => ?_⟩
  have h := hE.2 i
  rw [List.getD_eq_getElem?_getD] at h ⊢
  rw [List.getElem?_map]
  cases hi : e[i]? with
  | none => exact .undef _
  | some x => rw [hi] at h; exact h.ren k d
theorem canon_sound {β : Type} {n : Nat} {es : List HV} {K : List HV → List Ob → Option β} {r : β} {G0 : Gx} {w0 : World} (hI : St P G st w) (hf : Fr n G0 w0 G w) (hk : canonK n es st K = some r) :
    ∃ G' ρ st', RenOk ρ G w G' w ∧ St P G' st' w ∧ Fr n G0 w0 G' w ∧ K (es.map (ren ρ 5)) st' = some r := by
  unfold canonK at hk
  simp only [tellK_eq] at hk
  obtain ⟨h1, h2⟩ := br_none hk
  have hl : ∀ r ∈ (reachL st 200 (List.range n ++ es.flatMap (refsD 5)) []).filter fun r => liveO st[r]?, live st r := fun r hr => (List.mem_filter.1 hr).2
  generalize (reachL st 200 (List.range n ++ es.flatMap (refsD 5)) []).filter (fun r => liveO st[r]?) = ids at h1 h2 hl
  simp only [Bool.and_eq_true, decide_eq_true_eq] at h1
  obtain ⟨hnd, htake⟩ := h1
  have hnd := nodupB_iff.1 hnd
  have hat : ∀ r, r < n → ids[r]? = some r := fun r hr => by
    have : (ids.take n)[r]? = some r := by rw [htake]; simp [hr]
    rwa [List.getElem?_take_of_lt hr] at this
  have hlen : n ≤ ids.length := by
    have := congrArg List.length htake
    simp only [List.length_take, List.length_range] at this
    omega
  refine ⟨subG G ids, posOf ids, _, RenOk.sub G w, hI.sub hnd hl, ?_, h2⟩
  exact ⟨hf.os, hf.tape, hf.output, hf.size, hf.blk, hf.gro, hf.snew, fun r g ⟨r', _, hr⟩ => hf.rnew _ _ hr, fun r g hr h0 => ⟨r, hat r hr, hf.rkeep _ _ hr h0⟩, fun r v hr h0 => ⟨r, hat r hr, hf.tkeep _ _ hr h0⟩, fun r s k hr h0 => ⟨r, hat r hr, hf.lkeep _ _ _ hr h0⟩⟩

/-! ### code -/
def CPostX {β : Type} (P : Program) (n : Nat) (G0 : Gx) (w0 : World) (K : Ex → List HV → List Ob → Option β) (r : β) : Exit → Act → World → Prop := fun x a w =>
  ∃ ex G e st, ExR ex x ∧ a.defers = [] ∧ K ex e st = some r ∧ St P G st w ∧ RepE2 G w e a ∧ Fr n G0 w0 G w

section
variable {n : Nat} {G0 : Gx} {w0 : World}
theorem CPostX.at {β : Type} {K : Ex → List HV → List Ob → Option β} {r : β} {ex : Ex} {x : Exit} (h : ExR ex x) (hd : a.defers = []) (hk : K ex e st = some r) (hI : St P G st w) (hE : RepE2 G w e a) (hf : Fr n G0 w0 G w) : CPostX P n G0 w0 K r x a w :=
  ⟨ex, G, e, st, h, hd, hk, hI, hE, hf⟩

theorem evC2_sound {C : Cfg2} (hC : CfgOk C) (hm : C.P.follows .mixedOrders = true) {kp : Nat → List Nat} {fuel : Nat} : ∀ (c : Code), lexC2 c = true → ∀ (β : Type) (K : Ex → List HV → List Ob → Option β) (r : β) (G : Gx) (e : List HV) (st : List Ob) (a : Act) (w : World),
    St C.P G st w → RepE2 G w e a → a.defers = [] → Fr n G0 w0 G w → evC2 C kp n fuel c β e st K = some r → c.wp C.P (CPostX C.P n G0 w0 K r) a w := by
  intro c
  induction c with
  | skip => intro _ β K r G e st a w hI hE hd hf hk; exact wp_skip (.at (ex := .normal) trivial hd hk hI hE hf)
  | exit id => intro _ β K r G e st a w hI hE hd hf hk; exact wp_exit (.at (ex := .exit id) rfl hd hk hI hE hf)
  | ret => intro _ β K r G e st a w hI hE hd hf hk; exact wp_ret (.at (ex := .ret) trivial hd hk hI hE hf)
  | region id ops draw =>
    intro hl β K r G e st a w hI hE hd hf hk
    cases draw with
    | false =>
      unfold evC2 at hk
      refine wp_region ?_
      have := ops_soundX hC (Q := CPostX C.P n G0 w0 K r) (n := n) (G0 := G0) (w0 := w0) (fun e' st' a' w' G' hq h1 h2 h3 h4 => by
        rw [maskK_eq] at hq
        exact .at (ex := .normal) trivial h3 hq h1 (h2.mask (kp id)) h4) ops.toList 0 e st a w G (by simp) hI hE hd hf hk
      rw [List.range_eq_range']
      simpa using this
    | true =>
      unfold evC2 at hk
      simp only [lexC2, Bool.and_eq_true] at hl
      exact region_drawX hC hm hl.1 hl.2 hI hE hd hf (K := fun e st => maskK 0 (kp id) e fun e => K .normal e st) hk fun e' st' a' w' G' hq h1 h2 h3 h4 => by
        rw [maskK_eq] at hq
        exact .at (ex := .normal) trivial h3 hq h1 (h2.mask (kp id)) h4
  | seq x y ihx ihy =>
    intro hl β K r G e st a w hI hE hd hf hk
    simp only [lexC2, Bool.and_eq_true] at hl
    unfold evC2 at hk
    refine wp_seq (wp_mono (ihx hl.1 β _ r G e st a w hI hE hd hf hk) ?_)
    rintro x' a' w' ⟨ex, G', e', st', h1, h2, h3, h4, h5, h6⟩
    cases ex with
    | normal =>
      cases x' <;> first | cases h1 | skip
      exact ihy hl.2 β K r G' e' st' a' w' h4 h5 h2 h6 h3
    | exit i =>
      cases x' <;> first | (cases h1; done) | skip
      exact .at (ex := .exit i) h1 h2 h3 h4 h5 h6
    | ret =>
      cases x' <;> first | (cases h1; done) | skip
      exact .at (ex := .ret) trivial h2 h3 h4 h5 h6
  | cond o x y ihx ihy =>
    intro hl β K r G e st a w hI hE hd hf hk
    simp only [lexC2, Bool.and_eq_true] at hl
    unfold evC2 at hk
    split at hk
    · rename_i t ht
      have hv := hE.ev o
      rw [ht] at hv
      have hv := hv.bool_inv
      rcases br_some hk with ⟨h1, h2⟩ | ⟨h1, h2⟩
      · subst h1; exact wp_cond_true hv (ihx hl.1 β K r G e st a w hI hE hd hf h2)
      · subst h1; exact wp_cond_false hv (ihy hl.2 β K r G e st a w hI hE hd hf h2)
    · cases hk
  | block id x ih =>
    intro hl β K r G e st a w hI hE hd hf hk
    unfold evC2 at hk
    refine wp_block (wp_mono (ih hl β _ r G e st a w hI hE hd hf hk) ?_)
    rintro x' a' w' ⟨ex, G', e', st', h1, h2, h3, h4, h5, h6⟩
    cases ex with
    | normal =>
      cases x' <;> first | cases h1 | skip
      exact .at (ex := .normal) trivial h2 h3 h4 h5 h6
    | exit i =>
      cases x' <;> first | (cases h1; done) | skip
      rename_i j
      have hij : i = j := h1
      subst hij
      show if i = id then CPostX C.P n G0 w0 K r Exit.normal a' w' else CPostX C.P n G0 w0 K r (Exit.exit i) a' w'
      rcases br_some h3 with ⟨h7, h8⟩ | ⟨h7, h8⟩
      · have : i = id := by simpa using h7
        rw [if_pos this]
        exact .at (ex := .normal) trivial h2 h8 h4 h5 h6
      · have : i ≠ id := by simpa using h7
        rw [if_neg this]
        exact .at (ex := .exit i) rfl h2 h8 h4 h5 h6
    | ret =>
      cases x' <;> first | (cases h1; done) | skip
      exact .at (ex := .ret) trivial h2 h3 h4 h5 h6
  | loop x ih =>
    intro hl β K r G e st a w hI hE hd hf hk
    unfold evC2 at hk
    obtain ⟨Gc, ρc, stc, c1, c2, c3, hk⟩ := canon_sound hI hf hk
    obtain ⟨ex, e1, st1, hit, hk⟩ := bndY_eq hk
    have key : ∀ (m : Nat) (G : Gx) (e : List HV) (st : List Ob) (a : Act) (w : World), St C.P G st w → RepE2 G w e a → a.defers = [] → Fr n G0 w0 G w →
        iter2 (fun e st => evC2 C kp n fuel x Out2 e st fun x e st => some (x, e, st)) n m e st = some (ex, e1, st1) → Code.rounds C.P x (CPostX C.P n G0 w0 K r) m a w := by
      intro m
      induction m with
      | zero => intro G e st a w _ _ _ _ h; cases h
      | succ m ihm =>
        intro G e st a w hI hE hd hf h
        unfold iter2 at h
        obtain ⟨ex2, e2, st2, h1, h2⟩ := bndY_eq h
        rw [rounds_succ]
        refine wp_mono (ih hl Out2 _ _ G e st a w hI hE hd hf h1) ?_
        rintro x' a' w' ⟨ex', G', e', st', k1, k2, k3, k4, k5, k6⟩
        injection k3 with k3
        cases k3
        cases ex2 with
        | normal =>
          cases x' <;> first | cases k1 | skip
          simp only at h2
          obtain ⟨G2, ρ, st3, j1, j2, j3, j4⟩ := canon_sound k4 k6 h2
          exact ihm G2 _ st3 a' w' j2 (k5.ren j1 5) k2 j3 j4
        | exit i =>
          cases x' <;> first | (cases k1; done) | skip
          injection h2 with h2
          cases h2
          exact .at (ex := .exit i) k1 k2 hk k4 k5 k6
        | ret =>
          cases x' <;> first | (cases k1; done) | skip
          injection h2 with h2
          cases h2
          exact .at (ex := .ret) trivial k2 hk k4 k5 k6
    exact wp_loop_rounds fuel (key fuel Gc _ stc a w c2 (hE.ren c1 5) hd c3 hit)
  | _ => intro _ β K r G e st a w hI hE hd hf hk; unfold evC2 at hk; cases hk

theorem resX_sound {β : Type} {rv : ResultVar} {K : HV → Option β} {r : β} (hI : St P G st w) (hE : RepE2 G w e a) (hk : resX P e st rv K = some r) : ∃ c u, K c = some r ∧ RepX G w c u ∧ (oneRes a.tmps rv).run P w = .ok u w := by
  cases rv with
  | tmp t =>
    simp only [resX, getK_eq] at hk
    exact ⟨_, _, hk, hE.2 t, rfl⟩
  | cell ad t =>
    simp only [resX] at hk
    have hx := hE.2 ad
    split at hk
    · rename_i r' off h
      rw [h] at hx
      obtain ⟨g, hR, he⟩ := hx.var_inv
      split at hk
      · rename_i cs hs
        obtain ⟨g', t', cells, hR', hh, hc, _⟩ := hI.obj _ _ hs
        obtain rfl := hI.rfun _ _ _ hR hR'
        obtain ⟨hv, u, h1, h2, h3⟩ := run_loadX (w := w) (ad := ⟨g, 0, none⟩) hk hc (fun j u hj => by rw [addr_add, cell_at_block hh, Nat.zero_add]; simpa using hj)
        rw [addr_add, Nat.zero_add] at h3
        exact ⟨hv, u, h1, h2, by simp only [oneRes, he, Sem.run_bind]; simpa [asAddr] using h3⟩
      · cases hk
    · cases hk
theorem ressX_sound {β : Type} (hI : St P G st w) (hE : RepE2 G w e a) : ∀ {l : List ResultVar} {K : List HV → Option β} {r : β}, ressX P e st l K = some r → ∃ cs us, K cs = some r ∧ RepXt G w cs us ∧ (l.mapM (oneRes a.tmps)).run P w = .ok us w := by
  intro l
  induction l with
  | nil => intro K r hk; exact ⟨[], [], hk, .nil, by simp⟩
  | cons x l ih =>
    intro K r hk
    obtain ⟨c, u, h1, h2, h3⟩ := resX_sound hI hE hk
    obtain ⟨cs, us, k1, k2, k3⟩ := ih h1
    refine ⟨c :: cs, u :: us, k1, .cons _ _ _ _ h2 k2, ?_⟩
    rw [List.mapM_cons]
    simp only [Sem.run_bind, h3, Result.andThen_ok, k3, Sem.run_pure]

theorem body2_sound {C : Cfg2} (hC : CfgOk C) (hm : C.P.follows .mixedOrders = true) {kp : Nat → List Nat} {fuel f : Nat} {fn : Func} (hfn : C.P.funcs[f]? = some fn) (hl : lexF2 C.P f = true) {args : List HV} {st st' : List Ob} {r : HV} (hr : body2 C kp fuel fn args st = some (r, st'))
    (G : Gx) (w : World) (vs : List Value) (hI : St C.P G st w) (ha : RepXt G w args vs) : Calls C.P f vs.toArray w (PostX C.P st.length G w r st') := by
  unfold body2 at hr
  split at hr
  rotate_left
  · cases hr
  rename_i c hc
  unfold lexF2 at hl
  simp only [hfn, hc] at hl
  refine calls_of_wp hfn hc ?_
  have hlen : vs.length = args.length := ha.length
  have hE : RepE2 G w (args ++ List.replicate (fn.ntmps - args.length) .undef) { tmps := vs.toArray ++ Array.replicate (fn.ntmps - vs.toArray.size) undef, defers := [] } := by
    refine ⟨by simp [hlen], fun i => ?_⟩
    by_cases hi : i < args.length
    · obtain ⟨v, h1, h2⟩ := ha.at (List.getElem?_eq_getElem hi)
      have e1 : (args ++ List.replicate (fn.ntmps - args.length) HV.undef).getD i .undef = args[i] := by simp [List.getD_eq_getElem?_getD, List.getElem?_append_left hi, hi]
      have e2 : (vs.toArray ++ Array.replicate (fn.ntmps - vs.toArray.size) Go.undef).getD i Go.undef = v := by
        have : i < vs.length := by omega
        rw [Array.getD_eq_getD_getElem?, Array.getElem?_append_left (by simpa using this)]
        simp [h1]
      simp only [e1, e2]
      exact h2
    · have e1 : (args ++ List.replicate (fn.ntmps - args.length) HV.undef).getD i .undef = .undef := by
        rw [List.getD_eq_getElem?_getD, List.getElem?_append_right (by omega), List.getElem?_replicate]
        split <;> rfl
      rw [e1]; exact .undef _
  refine wp_mono (evC2_sound hC hm c hl (HV × List Ob) _ (r, st') G _ st _ w hI hE rfl (Fr.refl st.length G w) hr) ?_
  rintro x a' w' ⟨ex, G', e', st1, h1, h2, h3, h4, h5, h6⟩
  have fin : retX C.P st.length fn.results.toList e' st1 = some (r, st') → a'.defers = [] ∧ ∃ v, (results fn a'.tmps).run C.P w' = .ok v w' ∧ PostX C.P st.length G w r st' (.returned v) w' := by
    intro h
    refine ⟨h2, ?_⟩
    unfold retX at h
    obtain ⟨cs, us, k1, k2, k3⟩ := ressX_sound h4 h5 h
    obtain ⟨G2, ρ, st2, j1, j2, j3, j4⟩ := canon_sound h4 h6 k1
    simp only [List.map_cons, List.map_nil, Option.some.injEq, Prod.mk.injEq] at j4
    obtain ⟨hrv, hst⟩ := j4
    have hrun : (results fn a'.tmps).run C.P w' = .ok (if h : us.toArray.size = 1 then us.toArray[0] else .tuple us.toArray) w' := by
      have hmap : (fn.results.mapM (oneRes a'.tmps)).run C.P w' = .ok us.toArray w' := by
        rw [Array.mapM_eq_mapM_toList]
        simp [k3]
      have hfun : results fn a'.tmps = (do let vs ← fn.results.mapM (oneRes a'.tmps); pure (if h : vs.size = 1 then vs[0] else .tuple vs)) := by
        unfold results
        congr 1
      rw [hfun]
      simp only [Sem.run_bind, hmap, Result.andThen_ok, Sem.run_pure]
    refine ⟨_, hrun, ?_⟩
    have hval : RepX G' w' (oneX cs) (if h : us.toArray.size = 1 then us.toArray[0] else .tuple us.toArray) := by
      cases k2 with
      | nil => exact .tup [] [] .nil
      | cons c u cs us hcu hcs =>
        cases hcs with
        | nil => exact hcu
        | cons c2 u2 cs us hcu2 hcs =>
          have hne : ¬ (u :: u2 :: us).toArray.size = 1 := by simp
          rw [dif_neg hne]
          exact .tup _ _ (.cons _ _ _ _ hcu (.cons _ _ _ _ hcu2 hcs))
    rw [← hrv, ← hst]
    exact ⟨_, G2, rfl, j2, j3, hval.ren j1 5⟩
  cases ex with
  | normal => cases x <;> first | (cases h1; done) | skip
              exact fin h3
  | exit i => cases h3
  | ret => cases x <;> first | (cases h1; done) | skip
           exact fin h3

def ExtOk2 (P : Program) (ext : Ext2) : Prop := ∀ f g, ext f = some g → ∀ call2, CallOkX P call2 → ∀ args st r st', g call2 args st = some (r, st') →
  ∀ (G : Gx) (w : World) (vs : List Value), St P G st w → RepXt G w args vs → Calls P f vs.toArray w (PostX P st.length G w r st')
structure EnvOk (E : Env2) (call : Nat → List HV → Option HV) (ext : Ext2) : Prop where
  pure : CallOk E.P call
  ext : ExtOk2 E.P ext
  clone : ∀ g el sz by_, E.mode g = .clone el sz by_ → ∃ call2, CallOkX E.P call2 ∧ CloneEq call2 g el sz by_
  mclone : ∀ g, E.mode g = .mclone → MCloneOk E.P g
  lex : E.fs.all (lexF2 E.P) = true
  mixed : E.P.follows .mixedOrders = true
theorem callX_sound {E : Env2} {call : Nat → List HV → Option HV} {ext : Ext2} (h : EnvOk E call ext) : ∀ k, CallOkX E.P (callX E call ext k) := by
  intro k
  induction k with
  | zero => intro f args st r st' hk; cases hk
  | succ k ih =>
    intro f args st r st' hk G w vs hI ha
    unfold callX at hk
    split at hk
    · rename_i g hg
      exact h.ext f g hg _ ih args st r st' hk G w vs hI ha
    · split at hk
      · rename_i hin
        have hlf := List.all_eq_true.1 h.lex f (by simpa using hin)
        split at hk
        · rename_i fn hf
          exact body2_sound (C := ⟨E.P, call, callX E call ext k, E.mode⟩) ⟨h.pure, ih, h.clone, h.mclone⟩ h.mixed hf hlf hk G w vs hI ha
        · cases hk
      · cases hk

/-- A call on closed values that answers a closed one: what the first interpreter needs. -/
def gC (S : Nat → Nat → Prop) : Gx := ⟨S, fun _ _ => False, fun _ _ => False, fun _ _ _ => False⟩
theorem St.empty (P : Program) {S : Nat → Nat → Prop} {w : World} (hS : ∀ b o, S b o → b < w.heap.size) : St P (gC S) [] w where
  obj := fun id o h => by simp at h
  rlt := fun _ _ h => h.elim
  tlt := fun _ _ h => h.elim
  llt := fun _ _ _ h => h.elim
  rfun := fun _ _ _ h => h.elim
  tfun := fun _ _ _ h => h.elim
  lfun := fun _ _ _ _ _ h => h.elim
  rinj := fun _ _ _ _ _ h => h.elim
  rold := fun _ _ h => h.elim
  slt := hS
theorem closedR_sound {P : Program} {call2 : Nat → List HV → List Ob → Option (HV × List Ob)} (hC : CallOkX P call2) {f : Nat} {args : List HV} {r : HV} (hk : closedR (call2 f args []) = some r) (S : Nat → Nat → Prop) (w : World) (vs : List Value) (hS : ∀ b o, S b o → b < w.heap.size) (ha : RepTs S w args vs) : Calls P f vs.toArray w (Post S w r) := by
  unfold closedR at hk
  split at hk
  · rename_i rv st' hc
    refine Calls.mono (hC f args [] rv st' hc (gC S) w vs (St.empty P hS) (.ofT ha)) ?_
    rintro en w' ⟨v, G', rfl, h1, h2, h3⟩
    obtain ⟨c, W, G2, k1, k2, k3, k4, k5, k6⟩ := closeK_sound 4 h1 (Sim.refl st') h3 hk
    injection k1 with k1
    subst k1
    have hf := h2.trans (k5 [].length)
    have h0 : ∀ r g, ¬ (gC S).R r g := fun r g h => h
    refine ⟨v, G2.S, rfl, hf.below (fun r g h => (h0 r g h).elim), fun b o h => hf.gro.sub b o h, fun b o h => ?_, fun b o h => k2.slt b o h, ?_⟩
    · rcases hf.snew b o h with x | ⟨r, x⟩ | x
      · exact .inl x
      · exact (h0 r b x).elim
      · exact .inr x
    · cases c <;> first | exact k6 | cases k6
  · cases hk
end
end
end Go.Eng
end

section
namespace Go.Eng
set_option linter.unusedVariables false
set_option linter.unusedSimpArgs false
variable {α β γ : Type}

theorem bnd_bndY (X : Option Out2) (f : Ex → List HV → List Ob → Option γ) (H : γ → Option β) : bnd (bndY X f) H = bndY X fun x e st => bnd (f x e st) H := by
  cases X with
  | none => unfold bndY bnd; rfl
  | some r => obtain ⟨x, e, st⟩ := r; simp only [bndY_some]
theorem evOps2_u (C : Cfg2) (all : Array Oper) : ∀ (l : List Oper) (e : List HV) (st : List Ob) (K : List HV → List Ob → Option β) (F : List HV → List Ob → Option γ) (H : γ → Option β), (∀ e st, K e st = bnd (F e st) H) → evOps2 C all l e st K = bnd (evOps2 C all l e st F) H
  | [], e, st, K, F, H, h => h e st
  | o :: l, e, st, K, F, H, h => by
    have step : ∀ e, (evOp2 C o e st none fun v W _ => put e o.dst v fun e => evOps2 C all l e (appl st W) K) = bnd (evOp2 C o e st none fun v W _ => put e o.dst v fun e => evOps2 C all l e (appl st W) F) H := fun e =>
      evOp2_u _ _ _ _ _ _ _ _ fun v W rd => by rw [put_eq', put_eq']; exact evOps2_u C all l _ _ K F H h
    have skip : ∀ e, (put e o.dst (.tup []) fun e => evOps2 C all l e st K) = bnd (put e o.dst (.tup []) fun e => evOps2 C all l e st F) H := fun e => by rw [put_eq', put_eq']; exact evOps2_u C all l _ _ K F H h
    unfold evOps2
    split
    · exact step e
    · split
      · split
        · split
          · simp only [setK_eq, bnd_br, bnd_brs]
            rw [step, step, skip, skip]
          · exact skip e
          · simp only [bnd_none]
        · simp only [bnd_none]
      · simp only [bnd_none]
theorem evOpsD_u (C : Cfg2) (all : Array Oper) (base : Nat) : ∀ (l : List Oper) (i : Nat) (e : List HV) (st : List Ob) (fp : Fp) (K : List HV → List Ob → Fp → Option β) (F : List HV → List Ob → Fp → Option γ) (H : γ → Option β), (∀ e st fp, K e st fp = bnd (F e st fp) H) → evOpsD C all base l i e st fp K = bnd (evOpsD C all base l i e st fp F) H
  | [], i, e, st, fp, K, F, H, h => h e st fp
  | o :: l, i, e, st, fp, K, F, H, h => by
    have step : ∀ e, (opD C base i o e st fun v W rd => put e o.dst v fun e => evOpsD C all base l (i + 1) e (appl st W) (fp ++ [(i, W.map (·.1), rd)]) K) = bnd (opD C base i o e st fun v W rd => put e o.dst v fun e => evOpsD C all base l (i + 1) e (appl st W) (fp ++ [(i, W.map (·.1), rd)]) F) H := fun e =>
      opD_u _ _ _ _ _ _ _ _ _ fun v W rd => by rw [put_eq', put_eq']; exact evOpsD_u C all base l _ _ _ _ K F H h
    have skip : ∀ e, (put e o.dst (.tup []) fun e => evOpsD C all base l (i + 1) e st (fp ++ [(i, [], [])]) K) = bnd (put e o.dst (.tup []) fun e => evOpsD C all base l (i + 1) e st (fp ++ [(i, [], [])]) F) H := fun e => by rw [put_eq', put_eq']; exact evOpsD_u C all base l _ _ _ _ K F H h
    unfold evOpsD
    split
    · exact step e
    · split
      · split
        · split
          · simp only [setK_eq, bnd_br, bnd_brs]
            rw [step, step, skip, skip]
          · exact skip e
          · simp only [bnd_none]
        · simp only [bnd_none]
      · simp only [bnd_none]
/-- Code, told first and used then. -/
theorem evC2_u (C : Cfg2) (kp : Nat → List Nat) (n k : Nat) : ∀ (c : Code) (β γ : Type) (e : List HV) (st : List Ob) (F : Ex → List HV → List Ob → Option γ) (G : Ex → List HV → List Ob → Option β) (K : γ → Option β), (∀ x e st, G x e st = bnd (F x e st) K) →
    evC2 C kp n k c β e st G = bnd (evC2 C kp n k c γ e st F) K := by
  intro c
  induction c with
  | skip => intro β γ e st F G K h; exact h _ _ _
  | exit id => intro β γ e st F G K h; exact h _ _ _
  | ret => intro β γ e st F G K h; exact h _ _ _
  | region id ops draw =>
    intro β γ e st F G K h
    cases draw with
    | false => unfold evC2; exact evOps2_u _ _ _ _ _ _ _ _ fun e st => by rw [maskK_eq, maskK_eq]; exact h _ _ _
    | true => unfold evC2; exact evOpsD_u _ _ _ _ _ _ _ _ _ _ _ fun e st fp => by rw [bnd_brs, bnd_none, maskK_eq, maskK_eq, h]
  | seq x y ihx ihy =>
    intro β γ e st F G K h
    unfold evC2
    refine ihx β γ e st _ _ K fun x' e st => ?_
    cases x' with
    | normal => exact ihy β γ e st F G K h
    | exit i => exact h _ _ _
    | ret => exact h _ _ _
  | cond o x y ihx ihy =>
    intro β γ e st F G K h
    unfold evC2
    split
    · rw [bnd_br, ihx β γ e st F G K h, ihy β γ e st F G K h]
    · simp only [bnd_none]
  | block id x ih =>
    intro β γ e st F G K h
    unfold evC2
    refine ih β γ e st _ _ K fun x' e st => ?_
    cases x' with
    | normal => exact h _ _ _
    | exit i => simp only [bnd_brs, h]
    | ret => exact h _ _ _
  | loop x ih =>
    intro β γ e st F G K h
    unfold evC2
    simp only [canonK, tellK_eq]
    rw [bnd_brs, bnd_none, bnd_bndY]
    congr 2
    funext x' e st
    exact h _ _ _
  | _ => intro β γ e st F G K h; unfold evC2; simp only [bnd_none]
/-- Slots of which some are known; the others are let go. -/
def sl : Nat → Nat → List (Nat × HV) → List HV
  | _, 0, _ => []
  | i, n + 1, [] => .undef :: sl (i + 1) n []
  | i, n + 1, (k, v) :: t => match k == i with
    | true => v :: sl (i + 1) n t
    | false => .undef :: sl (i + 1) n ((k, v) :: t)
def fin2 : Ex → List HV → List Ob → Option Out2 := fun x e st => some (x, e, st)
/-- A round's end: only what is reached is kept. -/
def rnd (n : Nat) : Ex → List HV → List Ob → Option Out2 := fun x e st => match x with
  | .normal => canonK n e st fun e st => some (.normal, e, st)
  | x => some (x, e, st)
theorem Giv.pieceX {C : Cfg2} {kp : Nat → List Nat} {n k : Nat} {c : Code} {β : Type} {e : List HV} {st : List Ob} {G : Ex → List HV → List Ob → Option β} {Q1 : Out2 → Prop} {Q : β → Prop} (h : Giv (evC2 C kp n k c Out2 e st fin2) Q1)
    (hk : ∀ x e st, Q1 (x, e, st) → Giv (G x e st) Q) : Giv (evC2 C kp n k c β e st G) Q := by
  rw [evC2_u C kp n k c β Out2 e st fin2 G (fun r => G r.1 r.2.1 r.2.2) (fun x e st => by simp only [fin2, bnd_some])]
  obtain ⟨⟨x, e, st⟩, h1, h2⟩ := h
  rw [h1, bnd_some]
  exact hk _ _ _ h2
theorem Giv.seqX {C : Cfg2} {kp : Nat → List Nat} {n k : Nat} {c a b : Code} {β : Type} {e : List HV} {st : List Ob} {K : Ex → List HV → List Ob → Option β} {Q1 : Out2 → Prop} {Q : β → Prop} (hc : c = .seq a b) (h : Giv (evC2 C kp n k a Out2 e st fin2) Q1)
    (hn : ∀ e st, Q1 (.normal, e, st) → Giv (evC2 C kp n k b β e st K) Q) (hx : ∀ x e st, x ≠ .normal → Q1 (x, e, st) → Giv (K x e st) Q) : Giv (evC2 C kp n k c β e st K) Q := by
  subst hc
  unfold evC2
  refine Giv.pieceX h fun x e st hq => ?_
  cases x with
  | normal => exact hn e st hq
  | exit i => exact hx _ e st (by intro h; cases h) hq
  | ret => exact hx _ e st (by intro h; cases h) hq
theorem Giv.bodyX {C : Cfg2} {kp : Nat → List Nat} {k : Nat} {fn : Func} {args : List HV} {st : List Ob} {c : Code} {Q : HV × List Ob → Prop} (hb : fn.body = some c) (h : Giv (evC2 C kp st.length k c (HV × List Ob) (args ++ List.replicate (fn.ntmps - args.length) .undef) st fun x e st' => match x with
      | .exit _ => none
      | _ => retX C.P st.length fn.results.toList e st') Q) : Giv (body2 C kp k fn args st) Q := by
  unfold body2
  rw [hb]
  exact h
theorem callX_eq {E : Env2} {call : Nat → List HV → Option HV} {ext : Ext2} {k f : Nat} {args : List HV} {st : List Ob} (hx : ext f = none) (hf : E.fs.elem f = true) {fn : Func} (h : E.P.funcs[f]? = some fn) : callX E call ext (k + 1) f args st = body2 ⟨E.P, call, callX E call ext k, E.mode⟩ (E.kp f) k fn args st := by
  show (match ext f with | some g => g (callX E call ext k) args st | none => match E.fs.elem f with | true => _ | false => none) = _
  rw [hx, hf]
  simp only [h]
theorem Giv.Y {X : Option Out2} {f : Ex → List HV → List Ob → Option β} {Q1 : Out2 → Prop} {Q : β → Prop} (h : Giv X Q1) (hk : ∀ x e st, Q1 (x, e, st) → Giv (f x e st) Q) : Giv (bndY X f) Q := by
  obtain ⟨⟨x, e, st⟩, rfl, hq⟩ := h
  rw [bndY_some]
  exact hk x e st hq
theorem Giv.X {X : Option (HV × List Ob)} {f : HV → List Ob → Option β} {v : HV} {so : List Ob} {Q : β → Prop} (h : X = some (v, so)) (hk : Giv (f v so) Q) : Giv (bndX X f) Q := by subst h; rwa [bndX_some]
theorem Giv.E {α : Type} {x y : α} {X Y : Option β} {Q : β → Prop} (h : x = y) (hx : Giv X Q) : Giv (br (eqB x y) X Y) Q := by
  have : eqB x y = true := by unfold eqB; exact @decide_eq_true _ (Classical.propDecidable _) h
  rw [this, br_t]; exact hx

/-- A loop: what holds ahead of a round holds ahead of the next one, or the round leaves it. -/
theorem iter2_rule {f : List HV → List Ob → Option Out2} {n : Nat} {Q : Out2 → Prop} (I : Nat → List HV → List Ob → Prop) (m : Nat)
    (hstep : ∀ i e st, i ≤ m → I i e st → Giv (bndY (f e st) (rnd n)) fun r => (r.1 = .normal ∧ i < m ∧ I (i + 1) r.2.1 r.2.2) ∨ (r.1 ≠ .normal ∧ Q r)) :
    ∀ (d i : Nat) (e : List HV) (st : List Ob) (k : Nat), I i e st → i + d = m → d < k → Giv (iter2 f n k e st) Q := by
  have unroll : ∀ (k : Nat) (e : List HV) (st : List Ob), iter2 f n (k + 1) e st = bndY (bndY (f e st) (rnd n)) fun x e st => match x with
      | .normal => iter2 f n k e st
      | x => some (x, e, st) := by
    intro k e st
    show bndY (f e st) _ = _
    cases hf : f e st with
    | none => unfold bndY; rfl
    | some r =>
      obtain ⟨x, e', st'⟩ := r
      rw [bndY_some, bndY_some]
      cases x with
      | normal =>
        simp only [rnd, canonK, tellK_eq]
        generalize (idsOk _ && _) = b
        cases b with
        | false => unfold bndY; rfl
        | true => simp only [brs_eq, br_t, bndY_some]
      | exit i => simp only [rnd, bndY_some]
      | ret => simp only [rnd, bndY_some]
  intro d
  induction d with
  | zero =>
    intro i e st k hI hm hk
    cases k with
    | zero => omega
    | succ k =>
      rw [unroll]
      refine Giv.Y (hstep i e st (by omega) hI) ?_
      rintro x e' st' (⟨_, h, _⟩ | ⟨h, hq⟩)
      · omega
      · cases x <;> first | exact absurd rfl h | exact Giv.ok hq
  | succ d ih =>
    intro i e st k hI hm hk
    cases k with
    | zero => omega
    | succ k =>
      rw [unroll]
      refine Giv.Y (hstep i e st (by omega) hI) ?_
      rintro x e' st' (⟨h1, h2, h3⟩ | ⟨h, hq⟩)
      · have h1 : x = .normal := h1
        subst h1
        exact ih (i + 1) e' st' k h3 (by omega) (by omega)
      · cases x <;> first | exact absurd rfl h | exact Giv.ok hq
theorem Giv.blkX {C : Cfg2} {kp : Nat → List Nat} {n k id : Nat} {c c' : Code} {β : Type} {e : List HV} {st : List Ob} {K : Ex → List HV → List Ob → Option β} {Q : β → Prop} (hc : c = .block id c') (h : Giv (evC2 C kp n k c' β e st fun x e st => match x with | .exit i => brs (i == id) (K .normal e st) (K (.exit i) e st) | x => K x e st) Q) : Giv (evC2 C kp n k c β e st K) Q := by
  subst hc; exact h
theorem canonK_some {β : Type} {n : Nat} {e : List HV} {st : List Ob} {K : List HV → List Ob → Option β} {e0 : List HV} {st0 : List Ob} (h : canonK n e st (fun e st => some (e, st)) = some (e0, st0)) : canonK n e st K = K e0 st0 := by
  unfold canonK at h ⊢
  simp only [tellK_eq] at h ⊢
  obtain ⟨h1, h2⟩ := br_none h
  simp only [Option.some.injEq, Prod.mk.injEq] at h2
  obtain ⟨h3, h4⟩ := h2
  rw [h3, h4, h1]
  rfl
theorem Giv.loopX {C : Cfg2} {kp : Nat → List Nat} {n k id : Nat} {c c' : Code} {e : List HV} {st : List Ob} {K : Ex → List HV → List Ob → Option β} {Q1 : Out2 → Prop} {Q : β → Prop} (hc : c = .block id (.loop c')) {e0 : List HV} {st0 : List Ob} (h00 : canonK n e st (fun e st => some (e, st)) = some (e0, st0))
    (I : Nat → List HV → List Ob → Prop) (m : Nat) (h0 : I 0 e0 st0) (hk : m < k)
    (hstep : ∀ i e st, i ≤ m → I i e st → Giv (evC2 C kp n k c' Out2 e st (rnd n)) fun r => (r.1 = .normal ∧ i < m ∧ I (i + 1) r.2.1 r.2.2) ∨ (r.1 ≠ .normal ∧ Q1 r))
    (hq : ∀ x e st, Q1 (x, e, st) → Giv (match x with | .exit i => brs (i == id) (K .normal e st) (K (.exit i) e st) | x => K x e st) Q) : Giv (evC2 C kp n k c β e st K) Q := by
  subst hc
  unfold evC2
  unfold evC2
  rw [canonK_some h00]
  refine Giv.Y (Q1 := Q1) (iter2_rule (Q := Q1) I m (fun i e st hi hI => ?_) m 0 e0 st0 k h0 (by omega) hk) ?_
  · have := hstep i e st hi hI
    rw [evC2_u C kp n k c' Out2 Out2 e st (fun x e st => some (x, e, st)) (rnd n) (fun r => rnd n r.1 r.2.1 r.2.2) (fun x e st => by simp only [bnd_some])] at this
    have e1 : (bndY (evC2 C kp n k c' Out2 e st fun x e st => some (x, e, st)) (rnd n)) = bnd (evC2 C kp n k c' Out2 e st fun x e st => some (x, e, st)) (fun r => rnd n r.1 r.2.1 r.2.2) := by
      cases evC2 C kp n k c' Out2 e st fun x e st => some (x, e, st) with
      | none => unfold bndY bnd; rfl
      | some r => obtain ⟨x, e, st⟩ := r; rw [bndY_some, bnd_some]
    rw [e1]
    exact this
  · intro x e st h
    have := hq x e st h
    cases x <;> exact this
end Go.Eng
end

section
namespace Go.Eng
open Go.RowKit Go.Sort Go.Proofs
set_option linter.unusedVariables false
set_option linter.unusedSimpArgs false

def intAt (c : List HV) : Int := match c with
  | [.int .i64 x] => x
  | _ => 0
def intsF (n : Nat) (f : Nat → List HV) : List Int := (List.range n).map fun j => intAt (f j)
def allInt (n : Nat) (f : Nat → List HV) : Prop := ∀ j, j < n → f j = [.int .i64 (intAt (f j))]
def srt (l : List Int) : List Int := l.mergeSort fun x y => decide (x ≤ y)
noncomputable def sort2 (e : Nat) (call2 : Nat → List HV → List Ob → Option (HV × List Ob)) (args : List HV) (st : List Ob) : Option (HV × List Ob) := match args, st with
  | [.ow 0], [.row true (some e') 1 n f] => brs (e' == e) (br (@decide (allInt n f) (Classical.propDecidable _)) (br (decide (n < 4611686018427387904)) (some (.tup [], [.row true (some e') 1 n (fun j => [.int .i64 ((srt (intsF n f)).getD j 0)])])) none) none) none
  | _, _ => none
noncomputable def comp2 (e : Nat) (call2 : Nat → List HV → List Ob → Option (HV × List Ob)) (args : List HV) (st : List Ob) : Option (HV × List Ob) := match args, st with
  | [.ow 0], [.row true (some e') 1 n f] => brs (e' == e) (br (@decide (allInt n f) (Classical.propDecidable _)) (some (.ow 1, [.gone, .row true (some e') 1 (Lib.compact (intsF n f)).length (fun j => [.int .i64 ((Lib.compact (intsF n f)).getD j 0)])])) none) none
  | _, _ => none

/-- What the shelf says of the library's sort, of its compaction. -/
structure SortC (P : Program) (f : Nat) : Prop where
  some_ : ∀ (blk off cap : Nat) (zs : List Int) (w : World), Holds (Value.int .i64) w blk off zs.toArray → blk < w.heap.size → zs.length < 4611686018427387904 →
    Calls P f #[.slice (some ⟨blk, off, none⟩) zs.length cap] w fun e w' => e = .returned (.tuple #[]) ∧ ∃ n os, w' = grow (putRow (Value.int .i64) (Sort.ahead w n) blk off (zs.mergeSort fun x y => decide (x ≤ y)).toArray) os
  none_ : ∀ (p : Option Addr) (cap : Nat) (w : World), Calls P f #[.slice p 0 cap] w fun e w' => e = .returned (.tuple #[]) ∧ w' = w
structure CompC (P : Program) (f : Nat) : Prop where
  some_ : ∀ (blk off cap : Nat) (zs : List Int) (w : World), Holds (Value.int .i64) w blk off zs.toArray → zs.length ≤ 9223372036854775807 → zs.length ≤ cap →
    Calls P f #[.slice (some ⟨blk, off, none⟩) zs.length cap] w fun e w' => e = .returned (.slice (some ⟨blk, off, none⟩) (Lib.compact zs).length cap) ∧ ∃ q, w' = putRow (Value.int .i64) (Sort.ahead w q) blk off (Lib.compact zs ++ List.replicate (zs.length - (Lib.compact zs).length) 0).toArray
  none_ : ∀ (p : Option Addr) (cap : Nat) (w : World), Calls P f #[.slice p 0 cap] w fun e w' => e = .returned (.slice p 0 cap) ∧ w' = w

section
variable {P : Program} {G : Gx} {w : World}
theorem cells_int {S : Nat → Nat → Prop} {x : Int} {l : List Value} (h : RepCs S w [.int .i64 x] l) : l = [.int .i64 x] := by
  cases h with
  | cons _ v _ vs h h1 hs =>
    cases hs
    cases h with
    | int _ _ => rfl
/-- A row of whole numbers: its block's cells. -/
theorem cells_row {g n : Nat} {f : Nat → List HV} {cells : Array Value} (h : Els G w g true 1 n f cells) (hi : allInt n f) (hn : n ≤ cells.size) : cells.toList.take (intsF n f).length = (intsF n f).map (Value.int .i64) := by
  have hl : (intsF n f).length = n := by simp [intsF]
  rw [hl]
  apply List.ext_getElem?
  intro j
  by_cases hj : j < n
  · have h1 := h.1 j hj
    rw [hi j hj] at h1
    have h2 := cells_int h1
    rw [Nat.mul_one] at h2
    have h3 : ((cells.toList.drop j).take 1)[0]? = some (.int .i64 (intAt (f j))) := by rw [h2]; rfl
    rw [List.getElem?_take_of_lt (by omega), List.getElem?_drop, Nat.add_zero] at h3
    rw [List.getElem?_take_of_lt hj, h3]
    simp [intsF, hj]
  · rw [List.getElem?_eq_none (by simp; omega), List.getElem?_eq_none (by simp [intsF]; omega)]
theorem els_of {g n : Nat} {l : List Int} {cells : Array Value} (hl : n ≤ l.length) (hc : cells.toList.take l.length = l.map (Value.int .i64)) (hS : ∀ o, ¬ G.S g o) : Els G w g true 1 n (fun j => [.int .i64 (l.getD j 0)]) cells := by
  refine ⟨fun i hi => ?_, fun _ => hS, fun h => by cases h⟩
  have h1 : (cells.toList.take l.length)[i]? = some (.int .i64 (l.getD i 0)) := by
    rw [hc]; simp [List.getElem?_map, List.getD_eq_getElem?_getD, List.getElem?_eq_getElem (show i < l.length by omega)]
  rw [List.getElem?_take_of_lt (by omega)] at h1
  have h2 : (cells.toList.drop (i * 1)).take 1 = [.int .i64 (l.getD i 0)] := by
    rw [Nat.mul_one]
    apply List.ext_getElem?
    intro j
    match j with
    | 0 => rw [List.getElem?_take_of_lt (by omega), List.getElem?_drop, Nat.add_zero, h1]; rfl
    | j + 1 => rw [List.getElem?_eq_none (by simp; omega), List.getElem?_eq_none (by simp)]
  rw [h2]
  exact .cons _ _ _ _ (.int _ _) rfl .nil
theorem srt_len (l : List Int) : (srt l).length = l.length := by simp [srt]
theorem ints_len (n : Nat) (f : Nat → List HV) : (intsF n f).length = n := by simp [intsF]
theorem sort2_ok {e f : Nat} (hS : SortC P f) {call2 : Nat → List HV → List Ob → Option (HV × List Ob)} {args : List HV} {st : List Ob} {r : HV} {st' : List Ob} (h : sort2 e call2 args st = some (r, st')) (vs : List Value) (hI : St P G st w) (ha : RepXt G w args vs) : Calls P f vs.toArray w (PostX P st.length G w r st') := by
  unfold sort2 at h
  split at h
  · rename_i e' n f'
    obtain ⟨he, h⟩ := br_none h
    obtain ⟨hi, h⟩ := br_none h
    obtain ⟨hb, h⟩ := br_none h
    have hi : allInt n f' := by simpa using hi
    have hb : n < 4611686018427387904 := by simpa using hb
    simp only [Option.some.injEq, Prod.mk.injEq] at h
    obtain ⟨rfl, rfl⟩ := h
    cases ha with
    | cons _ v _ _ hv hvs =>
    cases hvs
    obtain ⟨hT, A, n0, c0, rfl⟩ := hv.ow_inv
    have hob := hI.obj 0 _ rfl
    obtain ⟨hL, hsz, v', hT', hv'⟩ := hob
    obtain rfl := hI.tfun _ _ _ hT hT'
    by_cases hn : n = 0
    · subst hn
      have h0 : n0 = 0 := by
        rcases hv' with ⟨_, A', h1⟩ | ⟨g, cap, cells, h1, _⟩
        · injection h1
        · injection h1
      subst h0
      refine (hS.none_ A c0 w).mono ?_
      rintro en w' ⟨rfl, rfl⟩
      refine ⟨_, G, rfl, { hI with obj := ?_, rinj := ?_ }, Fr.refl _ _ _, .tup [] [] .nil⟩
      · intro id o ho
        match id with
        | 0 =>
          injection ho with ho
          subst ho
          refine ⟨hL, hsz, _, hT, ?_⟩
          rcases hv' with h1 | ⟨g, cap, cells, h1, h2, h3, h4, h5, h6, h7⟩
          · exact .inl h1
          · exact .inr ⟨g, cap, cells, h1, h2, h3, h4, h5, h6, fun i hi => by omega, h7.2.1, h7.2.2⟩
        | id + 1 => cases ho
      · intro r r' g l1 l2 h1 h2
        have a := hI.rlt _ _ h1
        have b := hI.rlt _ _ h2
        simp at a b
        omega
    · rcases hv' with ⟨h1, _⟩ | ⟨g, cap, cells, h1, h2, h3, h4, h5, h6, h7⟩
      · exact absurd h1 hn
      injection h1 with h1 h1' h1''
      subst h1 h1' h1''
      have ht := cells_row h7 hi (by omega)
      have hg := hI.rold _ _ h2
      have hl := ints_len n0 f'
      have hk := hS.some_ g 0 c0 (intsF n0 f') w (holds_of_blockI h3 ht) hg (by omega)
      rw [hl] at hk
      refine hk.mono ?_
      rintro en w' ⟨rfl, q, os, rfl⟩
      have hgr := grownBy_sortedI (w := w) (g := g) (n := q) (os := os) ((intsF n0 f').mergeSort fun x y => decide (x ≤ y)).toArray
      obtain ⟨hos, htp, hout, hsize, hblk⟩ := hgr
      have hnew := heap_sortedI (n := q) (os := os) ((intsF n0 f').mergeSort fun x y => decide (x ≤ y)).toArray h3
      have hSg := h7.2.1 rfl
      have key := hI.write (r := 0) (o' := .row true (some e') 1 n0 (fun j => [.int .i64 ((srt (intsF n0 f')).getD j 0)])) rfl rfl h2 hSg hos htp hout hsize (fun k hk hne => hblk k hk (fun e => hne (by injection e))) (fun mo => by
        refine ⟨hL, hsz, _, hT, .inr ⟨g, c0, _, rfl, h2, hnew, h4, h5, by simpa [putCells] using h6, ?_⟩⟩
        refine els_of (l := srt (intsF n0 f')) (by rw [srt_len, hl]; omega) ?_ hSg
        exact take_putCellsI cells (srt (intsF n0 f')) (by rw [srt_len, hl]; omega))
      exact ⟨_, G, rfl, key.1, key.2.2 _, .tup [] [] .nil⟩
  · cases h
theorem grownBy_putRow {g n : Nat} (d : Array Int) : w.grownBy (putRow (Value.int .i64) (Sort.ahead w n) g 0 d) (some g) := by
  have := grownBy_sortedI (w := w) (g := g) (n := n) (os := #[]) d
  simpa using this
theorem heap_putRow {g n : Nat} {cur : Array Value} {e : TypeId} {fr : Nat × Nat} (d : Array Int) (hb : w.heap[g]? = some (.cells cur e fr)) : (putRow (Value.int .i64) (Sort.ahead w n) g 0 d).heap[g]? = some (.cells (putCells (Value.int .i64) 0 d cur) e fr) := by
  have := heap_sortedI (n := n) (os := #[]) d hb
  simpa using this
theorem comp2_ok {e f : Nat} (hS : CompC P f) {call2 : Nat → List HV → List Ob → Option (HV × List Ob)} {args : List HV} {st : List Ob} {r : HV} {st' : List Ob} (h : comp2 e call2 args st = some (r, st')) (vs : List Value) (hI : St P G st w) (ha : RepXt G w args vs) : Calls P f vs.toArray w (PostX P st.length G w r st') := by
  unfold comp2 at h
  split at h
  · rename_i e' n f'
    obtain ⟨he, h⟩ := br_none h
    obtain ⟨hi, h⟩ := br_none h
    have hi : allInt n f' := by simpa using hi
    simp only [Option.some.injEq, Prod.mk.injEq] at h
    obtain ⟨rfl, rfl⟩ := h
    cases ha with
    | cons _ v _ _ hv hvs =>
    cases hvs
    obtain ⟨hT, A, n0, c0, rfl⟩ := hv.ow_inv
    have hob := hI.obj 0 _ rfl
    obtain ⟨hL, hsz, v', hT', hv'⟩ := hob
    obtain rfl := hI.tfun _ _ _ hT hT'
    have hlen := ints_len n f'
    have hcl : (Lib.compact (intsF n f')).length ≤ n := by have := Lib.compact_length_le (intsF n f'); omega
    -- nothing in it
    by_cases hn : n = 0
    · subst hn
      have h0 : n0 = 0 := by
        rcases hv' with ⟨_, A', h1⟩ | ⟨g, cap, cells, h1, _⟩
        · injection h1
        · injection h1
      subst h0
      refine (hS.none_ A c0 w).mono ?_
      rintro en w' ⟨rfl, rfl⟩
      have hc0 : (Lib.compact (intsF 0 f')).length = 0 := by omega
      have h1 : St P G [.gone] w' := hI.gone (r := 0) rfl rfl
      have hgone : ∀ r, ¬ live [Ob.gone] r := fun r h => by
        unfold live at h
        match r with
        | 0 => cases h
        | r + 1 => cases h
      rcases hv' with ⟨_, A', h2⟩ | ⟨g, cap, cells, h2, h3, h4, h5, h6, h7, h8⟩
      · have key := h1.fill (id := 1) (.inl rfl) (b := none) (v := some (.slice A 0 c0)) (l := some (1, 0)) (o := .row true (some e') 1 (Lib.compact (intsF 0 f')).length (fun j => [.int .i64 ((Lib.compact (intsF 0 f')).getD j 0)])) (fun g hg => by cases hg) (by
          rw [hc0]
          refine ⟨.inr ⟨rfl, rfl⟩, hsz, _, .inr ⟨rfl, rfl⟩, .inl ⟨rfl, A', h2⟩⟩) rfl
        exact ⟨_, _, rfl, key, { (Fr.refl 1 G w') with rnew := fun r g h => (by rcases h with h | ⟨_, h⟩; exact .inl ⟨r, h⟩; cases h), rkeep := fun _ _ _ h => .inl h, tkeep := fun _ _ _ h => .inl h, lkeep := fun _ _ _ _ h => .inl h }, .ow _ _ _ _ (.inr ⟨rfl, rfl⟩)⟩
      · have key := h1.fill (id := 1) (.inl rfl) (b := some g) (v := some (.slice A 0 c0)) (l := some (1, 0)) (o := .row true (some e') 1 (Lib.compact (intsF 0 f')).length (fun j => [.int .i64 ((Lib.compact (intsF 0 f')).getD j 0)])) (fun g' hg => by injection hg with hg; subst hg; exact ⟨hI.rold _ _ h3, fun r hr => absurd hr (hgone r)⟩) (by
          rw [hc0]
          refine ⟨.inr ⟨rfl, rfl⟩, hsz, _, .inr ⟨rfl, rfl⟩, .inr ⟨g, cap, cells, h2, .inr ⟨rfl, rfl⟩, h4, h5, h6, h7, fun i hi => by omega, h8.2.1, h8.2.2⟩⟩) rfl
        exact ⟨_, _, rfl, key, { (Fr.refl 1 G w') with rnew := fun r g' h => (by rcases h with h | ⟨_, h⟩; exact .inl ⟨r, h⟩; injection h with h; subst h; exact .inl ⟨_, h3⟩), rkeep := fun _ _ _ h => .inl h, tkeep := fun _ _ _ h => .inl h, lkeep := fun _ _ _ _ h => .inl h }, .ow _ _ _ _ (.inr ⟨rfl, rfl⟩)⟩
    · rcases hv' with ⟨h1, _⟩ | ⟨g, cap, cells, h1, h2, h3, h4, h5, h6, h7⟩
      · exact absurd h1 hn
      injection h1 with h1 h1' h1''
      subst h1 h1' h1''
      have ht := cells_row h7 hi (by omega)
      have hg := hI.rold _ _ h2
      have hk := hS.some_ g 0 c0 (intsF n0 f') w (holds_of_blockI h3 ht) (by unfold maxLen at h5; omega) (by omega)
      rw [hlen] at hk
      refine hk.mono ?_
      rintro en w' ⟨rfl, q, rfl⟩
      have hSg := h7.2.1 rfl
      obtain ⟨zs, hzs⟩ : ∃ zs, zs = Lib.compact (intsF n0 f') ++ List.replicate (n0 - (Lib.compact (intsF n0 f')).length) 0 := ⟨_, rfl⟩
      have hzl : zs.length = n0 := by rw [hzs]; simp; omega
      rw [← hzs]
      obtain ⟨hos, htp, hout, hsize, hblk⟩ := grownBy_putRow (w := w) (g := g) (n := q) zs.toArray
      have hnew := heap_putRow (n := q) zs.toArray h3
      have htk := take_putCellsI cells zs (by omega)
      have key := hI.write (r := 0) (o' := .row true (some e') 1 n0 (fun j => [.int .i64 (zs.getD j 0)])) rfl rfl h2 hSg hos htp hout hsize (fun k hk hne => hblk k hk (fun e => hne (by injection e))) (fun mo => by
        refine ⟨hL, hsz, _, hT, .inr ⟨g, c0, _, rfl, h2, hnew, h4, h5, by simpa [putCells] using h6, ?_⟩⟩
        exact els_of (l := zs) (by omega) htk hSg)
      have h8 : St P G [.gone] (putRow (Value.int .i64) (Sort.ahead w q) g 0 zs.toArray) := key.1.gone (r := 0) rfl rfl
      have hgone : ∀ r, ¬ live [Ob.gone] r := fun r h => by
        unfold live at h
        match r with
        | 0 => cases h
        | r + 1 => cases h
      have hcz : (putCells (Value.int .i64) 0 zs.toArray cells).toList.take (Lib.compact (intsF n0 f')).length = (Lib.compact (intsF n0 f')).map (Value.int .i64) := by
        have := congrArg (List.take (Lib.compact (intsF n0 f')).length) htk
        rw [List.take_take, Nat.min_eq_left (by omega), ← List.map_take] at this
        rw [this, hzs, List.take_left']
        rfl
      have k2 := h8.fill (id := 1) (.inl rfl) (b := some g) (v := some (.slice (some ⟨g, 0, none⟩) (Lib.compact (intsF n0 f')).length c0)) (l := some (1, (Lib.compact (intsF n0 f')).length)) (o := .row true (some e') 1 (Lib.compact (intsF n0 f')).length (fun j => [.int .i64 ((Lib.compact (intsF n0 f')).getD j 0)])) (fun g' hg' => by injection hg' with hg'; subst hg'; exact ⟨Nat.lt_of_lt_of_le hg hsize, fun r hr => absurd hr (hgone r)⟩) (by
          refine ⟨.inr ⟨rfl, rfl⟩, hsz, _, .inr ⟨rfl, rfl⟩, .inr ⟨g, c0, _, rfl, .inr ⟨rfl, rfl⟩, hnew, by omega, h5, by simpa [putCells] using h6, ?_⟩⟩
          exact els_of (l := Lib.compact (intsF n0 f')) (Nat.le_refl _) hcz hSg) rfl
      have fr := key.2.2 1
      exact ⟨_, _, rfl, k2, { fr with rnew := fun r g' h => (by rcases h with h | ⟨_, h⟩; exact .inl ⟨r, h⟩; injection h with h; subst h; exact .inl ⟨_, h2⟩), rkeep := fun _ _ _ h => .inl h, tkeep := fun _ _ _ h => .inl h, lkeep := fun _ _ _ _ h => .inl h }, .ow _ _ _ _ (.inr ⟨rfl, rfl⟩)⟩
  · cases h
/-- Both, where they stand. -/
noncomputable def sortExt (fs fc e : Nat) : Ext2 := fun f => match f == fs with
  | true => some (sort2 e)
  | false => match f == fc with
    | true => some (comp2 e)
    | false => none
theorem sortExt_ok {fs fc e : Nat} (h1 : SortC P fs) (h2 : CompC P fc) : ExtOk2 P (sortExt fs fc e) := by
  intro f g hg call2 hc args st r st' hk G w vs hI ha
  unfold sortExt at hg
  split at hg
  · rename_i e1
    have e1 := eq_of_beq e1
    subst e1
    cases hg
    exact sort2_ok h1 hk vs hI ha
  · split at hg
    · rename_i e1
      have e1 := eq_of_beq e1
      subst e1
      cases hg
      exact comp2_ok h2 hk vs hI ha
    · cases hg
end
end Go.Eng
end

section
namespace Go.Eng
set_option linter.unusedVariables false
set_option linter.unusedSimpArgs false
variable {α β γ : Type}

theorem Giv.seqE {C : Cfg2} {kp : Nat → List Nat} {n k : Nat} {c a b : Code} {β : Type} {e : List HV} {st : List Ob} {K : Ex → List HV → List Ob → Option β} {Q : β → Prop} {e' : List HV} {st' : List Ob} (hc : c = .seq a b) (h : evC2 C kp n k a Out2 e st fin2 = some (.normal, e', st'))
    (hn : Giv (evC2 C kp n k b β e' st' K) Q) : Giv (evC2 C kp n k c β e st K) Q := by
  refine Giv.seqX hc (Q1 := fun o => o = (.normal, e', st')) (Giv.of_eq h (Giv.ok rfl)) ?_ ?_
  · intro e st h
    injection h with _ h; injection h with he hs; subst he hs
    exact hn
  · intro x e st hx h
    exact absurd (congrArg Prod.fst h) hx
/-- A loop that looks for the first index at which something holds, and changes nothing else. -/
theorem Giv.scan2 {C : Cfg2} {kp : Nat → List Nat} {n k id : Nat} {c c' : Code} {e : List HV} {st : List Ob} {K : Ex → List HV → List Ob → Option β} {Q : β → Prop} (hc : c = .block id (.loop c')) {E : Nat → List HV} {st0 : List Ob} (m : Nat) (T : Nat → Bool) (h00 : canonK n e st (fun e st => some (e, st)) = some (E 0, st0)) (hk : m < k) (QT : Nat → Out2 → Prop) (QE : Out2 → Prop)
    (h1 : ∀ i, i < m → T i = false → Giv (evC2 C kp n k c' Out2 (E i) st0 (rnd n)) fun r => r = (.normal, E (i + 1), st0))
    (h2 : ∀ i, i < m → T i = true → Giv (evC2 C kp n k c' Out2 (E i) st0 (rnd n)) fun r => r.1 ≠ .normal ∧ QT i r)
    (h3 : Giv (evC2 C kp n k c' Out2 (E m) st0 (rnd n)) fun r => r.1 ≠ .normal ∧ QE r)
    (hT : ∀ i x e st, i < m → T i = true → (∀ j, j < i → T j = false) → QT i (x, e, st) → Giv (match x with | .exit i => brs (i == id) (K .normal e st) (K (.exit i) e st) | x => K x e st) Q)
    (hE : ∀ x e st, (∀ j, j < m → T j = false) → QE (x, e, st) → Giv (match x with | .exit i => brs (i == id) (K .normal e st) (K (.exit i) e st) | x => K x e st) Q) : Giv (evC2 C kp n k c β e st K) Q := by
  refine Giv.loopX hc h00 (Q1 := fun o => (∃ i, i < m ∧ T i = true ∧ (∀ j, j < i → T j = false) ∧ QT i o) ∨ ((∀ j, j < m → T j = false) ∧ QE o))
    (fun i e st => e = E i ∧ st = st0 ∧ ∀ j, j < i → T j = false) m ⟨rfl, rfl, fun j hj => by omega⟩ hk ?_ ?_
  · rintro i e st hi ⟨rfl, rfl, hall⟩
    by_cases him : i = m
    · subst him
      obtain ⟨r, h, hx, hq⟩ := h3
      exact ⟨r, h, .inr ⟨hx, .inr ⟨hall, hq⟩⟩⟩
    · cases hTi : T i with
      | false =>
        obtain ⟨r, h, rfl⟩ := h1 i (by omega) hTi
        refine ⟨_, h, .inl ⟨rfl, by omega, rfl, rfl, fun j hj => ?_⟩⟩
        by_cases e : j = i
        · rw [e, hTi]
        · exact hall j (by omega)
      | true =>
        obtain ⟨r, h, hx, hq⟩ := h2 i (by omega) hTi
        exact ⟨r, h, .inr ⟨hx, .inl ⟨i, by omega, hTi, hall, hq⟩⟩⟩
  · rintro x e st (⟨i, h1, h2, h3, h4⟩ | ⟨h1, h2⟩)
    · exact hT i x e st h1 h2 h3 h4
    · exact hE x e st h1 h2

/-- The same, a round told at once. -/
theorem Giv.scan3 {C : Cfg2} {kp : Nat → List Nat} {n k id : Nat} {c c' : Code} {e : List HV} {st : List Ob} {K : Ex → List HV → List Ob → Option β} {Q : β → Prop} (hc : c = .block id (.loop c')) {E : Nat → List HV} {st0 : List Ob} (m : Nat) (T : Nat → Bool) (h00 : canonK n e st (fun e st => some (e, st)) = some (E 0, st0)) (hk : m < k) (QT : Nat → Out2 → Prop) (QE : Out2 → Prop)
    (h1 : ∀ i, i < m → Giv (evC2 C kp n k c' Out2 (E i) st0 (rnd n)) fun r => (T i = false ∧ r = (.normal, E (i + 1), st0)) ∨ (T i = true ∧ r.1 ≠ .normal ∧ QT i r))
    (h3 : Giv (evC2 C kp n k c' Out2 (E m) st0 (rnd n)) fun r => r.1 ≠ .normal ∧ QE r)
    (hT : ∀ i x e st, i < m → T i = true → (∀ j, j < i → T j = false) → QT i (x, e, st) → Giv (match x with | .exit i => brs (i == id) (K .normal e st) (K (.exit i) e st) | x => K x e st) Q)
    (hE : ∀ x e st, (∀ j, j < m → T j = false) → QE (x, e, st) → Giv (match x with | .exit i => brs (i == id) (K .normal e st) (K (.exit i) e st) | x => K x e st) Q) : Giv (evC2 C kp n k c β e st K) Q := by
  refine Giv.scan2 hc m T h00 hk QT QE ?_ ?_ h3 hT hE
  · intro i hi hTi
    obtain ⟨r, h, hr⟩ := h1 i hi
    rcases hr with ⟨_, hr⟩ | ⟨hr, _⟩
    · exact ⟨r, h, hr⟩
    · rw [hTi] at hr; cases hr
  · intro i hi hTi
    obtain ⟨r, h, hr⟩ := h1 i hi
    rcases hr with ⟨hr, _⟩ | ⟨_, hr⟩
    · rw [hTi] at hr; cases hr
    · exact ⟨r, h, hr⟩
theorem Giv.sq {C : Cfg2} {kp : Nat → List Nat} {n k : Nat} {c a b : Code} {β : Type} {e : List HV} {st : List Ob} {K : Ex → List HV → List Ob → Option β} {Q : β → Prop} (hc : c = .seq a b)
    (h : Giv (evC2 C kp n k a β e st fun x e st => match x with | .normal => evC2 C kp n k b β e st K | x => K x e st) Q) : Giv (evC2 C kp n k c β e st K) Q := by
  subst hc
  exact h

theorem Giv.pieceE {C : Cfg2} {kp : Nat → List Nat} {n k : Nat} {c : Code} {β : Type} {e : List HV} {st : List Ob} {G : Ex → List HV → List Ob → Option β} {Q : β → Prop} {x : Ex} {e' : List HV} {st' : List Ob} (h : evC2 C kp n k c Out2 e st fin2 = some (x, e', st')) (hk : Giv (G x e' st') Q) : Giv (evC2 C kp n k c β e st G) Q := by
  refine Giv.pieceX (Q1 := fun o => o = (x, e', st')) (Giv.of_eq h (Giv.ok rfl)) ?_
  intro x e st h
  injection h with hx h; injection h with he hs; subst hx he hs
  exact hk
/-- What the first interpreter has of the second. -/
noncomputable def extOf (E : Env2) (ext2 : Ext2) (k : Nat) : Ext := fun f => match E.fs.elem f with
  | true => some fun call args => closedR (callX E call ext2 k f args [])
  | false => none
theorem extOf_ok {E : Env2} {ext2 : Ext2} {k : Nat} (h : ∀ call, CallOk E.P call → EnvOk E call ext2) : ExtOk E.P (extOf E ext2 k) := by
  intro f g hg call hc args r hk S w vs hS ha
  unfold extOf at hg
  split at hg
  · cases hg
    exact closedR_sound (callX_sound (h call hc) k) hk S w vs hS ha
  · cases hg
theorem call_of {E : Env2} {P : Program} {ext2 : Ext2} {F : List Nat} {k k2 f : Nat} {args : List HV} {v : HV} (hf : E.fs.elem f = true) (h : closedR (callX E (callP P (extOf E ext2 k2) F k) ext2 k2 f args []) = some v) : callP P (extOf E ext2 k2) F (k + 1) f args = some v := by
  show (match extOf E ext2 k2 f with | some g => g (callP P (extOf E ext2 k2) F k) args | none => match F.elem f with | true => _ | false => none) = _
  unfold extOf
  rw [hf]
  exact h
end Go.Eng
end
