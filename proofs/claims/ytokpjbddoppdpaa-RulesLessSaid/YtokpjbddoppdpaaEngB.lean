/- A verified interpreter of the model's code over plain values: append, literals, make. -/
import Derived.Test.YtokpjbddoppdpaaEngA
import Derived.Laws.StructEq
set_option linter.unusedVariables false
set_option linter.unusedSimpArgs false
set_option linter.unusedSectionVars false
section
namespace Go.Eng
open Go.RowKit

section
variable {β : Type} {P : Program} {w0 : World} {S0 : Nat → Nat → Prop} {q : Bool} {G : Gh} {st : List Slot} {w : World} {K : HV → (HV → HV) → List Slot → Option β} {r : β} {o : Oper} {a : Act} {Q : Exit → Act → World → Prop}

theorem execOp_append {s x : Operand} {c : Call} {t : TypeId} (ho : o.op = .call c) (hc : c.callee = .builtin .append) (ha : c.args.toList = [s, x]) (ht : c.argTypes.toList = [t, t]) {v' : Value} {w' : World}
    (h : (Builtin.append_ #[t, t] o.type #[a.eval s, a.eval x]).run P w = .ok v' w') : (execOp a.eval o).run P w = .ok (.value v') w' := by
  have e1 : c.args = #[s, x] := by apply Array.toList_inj.1; simpa using ha
  have e2 : c.argTypes = #[t, t] := by apply Array.toList_inj.1; simpa using ht
  simp [execOp, ho, resolve, hc, invoke, builtin, e1, e2, h]

theorem demote_ok {t : Nat} {G' : Gh} {w' : World} (g : Gro G.S w G'.S w') (hR : G'.R = G.R) (hT : ∀ t' u, t' ≠ t → G.T t' u → G'.T t' u) (h : HV) (u : Value) (k : RepV G w h u) : RepV G' w' (demote t h) u := by
  cases h with
  | own t' sz n f =>
    unfold demote
    by_cases e : t' = t
    · simp only [e, beq_self_eq_true, cond_true]
      exact RepC.mono g k.2
    · have : (t' == t) = false := by simpa using e
      simp only [this, cond_false]
      exact ⟨hT _ _ e k.1, RepC.mono g k.2⟩
  | undef => trivial
  | arr r sz lo n => obtain ⟨b, A, c, h1, h2⟩ := k; exact ⟨b, A, c, by rw [hR]; exact h1, h2⟩
  | var r off => obtain ⟨b, h1, h2⟩ := k; exact ⟨b, by rw [hR]; exact h1, h2⟩
  | elt r sz i off => obtain ⟨b, h1, h2⟩ := k; exact ⟨b, by rw [hR]; exact h1, h2⟩
  | tup hs => obtain ⟨us, h1, h2⟩ := k; exact ⟨us, h1, h2.mono g⟩
  | mp a => exact k.elim
  | ow a => exact k.elim
  | nl a b => exact k.elim
  | _ => exact RepC.mono g k

theorem Inv.token (hI : Inv P w0 S0 G st w) {el sz : Nat} (hi : (P.info? el).map (·.size) = some sz) : Inv P w0 S0 (Eng.pushT G st.length (.slice none 0 0)) (st ++ [.tok el]) w :=
  hI.pushT (v := .slice none 0 0) (s := .tok el) (fun g h => by simp [Value.ownBlock] at h) (fun _ _ _ h => by simp [Value.ownBlock] at h) (fun _ _ _ _ _ h => by simp [Value.ownBlock] at h)
    ⟨.slice none 0 0, 0, sz, [], .inr ⟨rfl, rfl⟩, World.ownsRow_nil w _ _ _, hi, fun g h => by simp [Value.ownBlock] at h⟩
theorem token_mono {t : Nat} {v : Value} : ∀ h u, RepV G w h u → RepV (Eng.pushT G t v) w h u := fun _ _ k =>
  RepV.mono (G := G) (G' := Eng.pushT G t v) ⟨fun _ _ h => h, fun _ _ _ => rfl⟩ (fun _ _ h => h) (fun _ _ h => .inl h) k
theorem lst_zero {S : Nat → Nat → Prop} {w : World} {sz : Nat} {f : Nat → List HV} {A : Option Addr} {c : Nat} : RepC S w (.lst sz 0 f) (.slice A 0 c) :=
  .lst sz 0 f A c (fun _ => []) (fun i hi => by omega) (fun i hi => by omega) (fun i hi => by omega) (Nat.zero_le _)

theorem RepV.nils_inv {v : Value} (h : RepV G w .nils v) : v = .slice none 0 0 := by
  have h : RepC G.S w .nils v := h
  generalize hh : HV.nils = hv at h
  cases h <;> first | rfl | cases hh

theorem op_append {s x : Operand} {hs hx : HV} {c : Call} {t el sz by_ : Nat} {z : List HV} (ho : o.op = .call c) (hc : c.callee = .builtin .append) (ha : c.args.toList = [s, x]) (ht : c.argTypes.toList = [t, t]) (hq : q = false)
    (he : elemT P t = some (el, sz, z, by_)) (hI : Inv P w0 S0 G st w) (hvs : RepV G w hs (a.eval s)) (hvx : RepV G w hx (a.eval x))
    (hk : (listOf sz z hx fun m g => match (generalizing := false) hs with
      | .own t sz' n f => match st[t]? with
        | some (.tok el') => br (el' == el && sz' == sz) (br (decide ((n + m) * by_ ≤ 140737488355328)) (K (.own t sz (n + m) (appF n f g)) (demote t) st) none) none
        | _ => none
      | .nils => br (decide (m * by_ ≤ 140737488355328)) (K (.own st.length sz m g) id (st ++ [.tok el])) none
      | _ => none) = some r) : o.wp P a w (OpRes P w0 S0 q G st w K r o a) Q := by
  obtain ⟨m, g, A, c', cells, hk0, hx, h2, h3, h4⟩ := listOf_inv hvx rfl hk
  clear hk
  split at hk0
  · rename_i t' sz' n f
    split at hk0
    · rename_i el' hs'
      obtain ⟨hc1, hk1⟩ := br_none hk0
      obtain ⟨hb, hk2⟩ := br_none hk1
      clear hk0 hk1
      simp only [Bool.and_eq_true, beq_iff_eq] at hc1
      obtain ⟨rfl, rfl⟩ := hc1
      simp only [decide_eq_true_eq] at hb
      obtain ⟨v', w', G', hrun, hI', g', hR, hT, hT', hrep⟩ := append_core he hI hs' hvs.1 hvs.2 hx h2 h3 h4 hb o.type
      refine wp_val (execOp_append ho hc ha ht hrun) ?_
      exact ⟨_, v', _, st, G', hk2, rfl, hI', ⟨hT', hrep⟩, demote_ok g' hR hT, fun e => (by rw [hq] at e; cases e), g'⟩
    · cases hk0
  · obtain ⟨hb, hk2⟩ := br_none hk0
    simp only [decide_eq_true_eq] at hb
    obtain ⟨i, vz, hu, hi, hz, hzc, h5, h6, hzl, hs0, hb0⟩ := elemT_inv he
    have hI1 := hI.token (el := el) (sz := sz) (by rw [hi]; simp [h5])
    have hsl : a.eval s = .slice none 0 0 := RepV.nils_inv hvs
    obtain ⟨v', w', G', hrun, hI', g', hR, hT, hT', hrep⟩ := append_core (t := st.length) (n := 0) (f := g) (vs := .slice none 0 0) he hI1 (by simp) (.inr ⟨rfl, rfl⟩) lst_zero hx h2 h3 h4 (by simpa using hb) o.type
    rw [← hsl] at hrun
    refine wp_val (execOp_append ho hc ha ht hrun) ?_
    refine ⟨_, v', id, _, G', hk2, rfl, hI', ⟨hT', ?_⟩, fun h u k => ?_, fun e => (by rw [hq] at e; cases e), (⟨fun _ _ h => h, fun _ _ _ => rfl⟩ : Gro G.S w G.S w).trans g'⟩
    · have e : appF 0 g g = g := by funext i; simp [appF]
      rw [Nat.zero_add, e] at hrep
      exact hrep
    · exact RepV.mono (G := G) (G' := G') g' (fun r b h => by rw [hR]; exact h) (fun t' u h => hT t' u (by have := hI.tlt _ _ h; omega) (.inl h)) k
  · cases hk0

theorem op_nil {x : Operand} {el sz by_ : Nat} {z : List HV} (ho : o.op = .assign x) (hq : q = false) (hI : Inv P w0 S0 G st w) (hv : RepV G w .nils (a.eval x)) (he : elemT P o.type = some (el, sz, z, by_))
    (hk : K (.own st.length sz 0 (fun _ => z)) id (st ++ [.tok el]) = some r) : o.wp P a w (OpRes P w0 S0 q G st w K r o a) Q := by
  obtain ⟨i, vz, hu, hi, hz, hzc, h5, h6, hzl, hs0, hb0⟩ := elemT_inv he
  have hI1 := hI.token (el := el) (sz := sz) (by rw [hi]; simp [h5])
  have hsl : a.eval x = .slice none 0 0 := RepV.nils_inv hv
  refine wp_val (v := .slice none 0 0) (w' := w) (by simp [execOp, ho, hsl]) ?_
  exact ⟨_, _, id, _, _, hk, rfl, hI1, ⟨.inr ⟨rfl, rfl⟩, lst_zero⟩, token_mono, fun e => (by rw [hq] at e; cases e), Gro.refl _ _⟩

/-! ### literals -/
theorem foldl_set (off : Nat) (v : List Value) : ∀ (k : Nat) (cs : Array Value), off + k + v.length ≤ cs.size →
    ((v.zipIdx k).foldl (fun cs (c, j) => cs.setIfInBounds (off + j) c) cs).toList = cs.toList.take (off + k) ++ v ++ cs.toList.drop (off + k + v.length) := by
  induction v with
  | nil => intro k cs _; simp
  | cons x v ih =>
    intro k cs hle
    rw [List.zipIdx_cons, List.foldl_cons, ih (k + 1) _ (by simp at hle ⊢; omega)]
    have hk : off + k < cs.toList.length := by simp at hle ⊢; omega
    simp only [Array.toList_setIfInBounds, List.length_cons]
    rw [show off + (k + 1) = off + k + 1 from by omega, List.take_succ_eq_append_getElem (by simpa using hk), List.drop_set_of_lt (by omega)]
    simp only [List.getElem_set_self, List.take_set_of_le (Nat.le_refl _)]
    simp [Nat.add_assoc, Nat.add_comm, Nat.add_left_comm]

theorem zipIdx_fold (v : Array Value) (off : Nat) (cells : Array Value) (h : off + v.size ≤ cells.size) :
    (v.zipIdx.foldl (fun cs (c, j) => cs.setIfInBounds (off + j) c) cells).toList = cells.toList.take off ++ v.toList ++ cells.toList.drop (off + v.size) := by
  have := foldl_set off v.toList 0 cells (by simpa using h)
  rw [← Array.foldl_toList, Array.toList_zipIdx]
  simpa using this

theorem fill_rep {S : Nat → Nat → Prop} {place : Nat → Option (Nat × Nat)} : ∀ {ps : List (Nat × Value)} {cs : List HV} {cells : Array Value} {is : List Nat} {hs : List HV} {cs' : List HV}, RepCs S w cs cells.toList → RepTs S w hs (ps.map (·.2)) → is = ps.map (·.1) →
    fillH place cs (is.zip hs) = some cs' → ∃ cells', Instr.fill place cells ps = some cells' ∧ RepCs S w cs' cells'.toList := by
  intro ps
  induction ps with
  | nil =>
    intro cs cells is hs cs' hc _ hi hf
    subst hi
    simp [fillH] at hf
    subst hf
    exact ⟨cells, rfl, hc⟩
  | cons p ps ih =>
    intro cs cells is hs cs' hc hh hi hf
    subst hi
    obtain ⟨i, v⟩ := p
    cases hh with
    | cons h _ hs _ hv hhs =>
      simp only [List.map_cons, List.zip_cons_cons] at hf
      unfold fillH at hf
      split at hf
      · cases hf
      · rename_i off size hpl
        split at hf
        · rename_i hcond
          obtain ⟨hsz, hle⟩ := hcond
          have hcl := hv.cells
          have hl := hcl.length
          have hlc := hc.length
          simp only [Array.length_toList] at hl hlc
          have hfold := zipIdx_fold v.cells off cells (by omega)
          have hrep := hc.splice hcl off
          rw [Array.length_toList, ← hfold] at hrep
          obtain ⟨cells', h1, h2⟩ := ih hrep hhs rfl hf
          refine ⟨cells', ?_, h2⟩
          unfold Instr.fill
          simp only at hpl ⊢
          rw [hpl]
          simp only
          rw [if_neg (by simp; omega)]
          exact h1
        · cases hf

theorem run_places (fs : List Field) (h : fs.all (fun f => (szT P f.type).isSome) = true) :
    (fs.mapM fun f => (do pure (f.offset, ← sizeOf f.type) : Sem (Nat × Nat))).run P w = .ok (fs.map fun f => (f.offset, (szT P f.type).getD 0)) w := by
  induction fs with
  | nil => simp
  | cons f fs ih =>
    simp only [List.all_cons, Bool.and_eq_true] at h
    have h1 := h.1
    unfold szT at h1
    cases hi : P.info? f.type with
    | none => rw [hi] at h1; cases h1
    | some i =>
      have ih' := ih h.2
      simp [List.mapM_cons, sizeOf, typeInfo, hi, szT] at ih' ⊢
      rw [ih']
      simp

theorem op_build {t : TypeId} {parts : Array (Nat × Operand)} {fs : Array Field} {z : List HV} {hs : List HV} (ho : o.op = .build t parts) (hz : zeroT P t = some z) (hu : P.underlying t = some (.struct fs)) (hI : Inv P w0 S0 G st w)
    (hall : fs.toList.all (fun f => (szT P f.type).isSome) = true)
    (hl : hs.length = parts.toList.length) (hv : ∀ (i : Nat) h p, hs[i]? = some h → parts.toList[i]? = some p → RepV G w h (a.eval p.2))
    (hk : (toCs q st hs fun vs st => match fillH (placeT P fs) z ((parts.toList.map (·.1)).zip (nzs P (parts.toList.map fun p => fieldT fs p.1) vs)) with
        | some cs => K (.agg cs) id st
        | none => none) = some r) : o.wp P a w (OpRes P w0 S0 q G st w K r o a) Q := by
  obtain ⟨cs, st1, S1, hk1, hI1, g1, hcs, hq1, hl1⟩ := toCs_sound (vs := parts.toList.map fun p => a.eval p.2) hI (by simpa using hl)
    (fun i h v hi hvi => by
      rw [List.getElem?_map] at hvi
      cases hp : parts.toList[i]? with
      | none => rw [hp] at hvi; cases hvi
      | some p => rw [hp] at hvi; simp at hvi; subst hvi; exact hv i h p hi hp) hk
  split at hk1
  · rename_i cs' hf
    unfold zeroT at hz
    split at hz
    · rename_i i hi
      split at hz
      · rename_i vz hvz
        have hrep := zeroV_rep (S := S1) (w := w) hz
        obtain ⟨cells', h1, h2⟩ := fill_rep (ps := parts.toList.map fun p => (p.1, a.eval p.2)) hrep (by simpa [Function.comp_def] using nzs_rep (P := P) (ts := parts.toList.map fun p => fieldT fs p.1) hcs) (by simp [Function.comp_def]) hf
        have hpl : (fun i => ((fs.toList.map fun f => (f.offset, (szT P f.type).getD 0)).toArray)[i]?) = placeT P fs := by
          funext i
          unfold placeT
          rw [List.getElem?_toArray, List.getElem?_map, Array.getElem?_toList]
          cases hfi : fs[i]? with
          | none => rfl
          | some f =>
            have hmem : f ∈ fs.toList := Array.mem_toList_iff.2 (Array.mem_of_getElem? hfi)
            have := List.all_eq_true.1 hall f hmem
            cases hsz : szT P f.type with
            | none => rw [hsz] at this; cases this
            | some n => simp [hsz]
        have hrun : (Instr.build t (parts.map fun p => (p.1, a.eval p.2))).run P w = .ok (.agg cells') w := by
          unfold Instr.build
          have hm : (fs.mapM fun f => (do pure (f.offset, ← sizeOf f.type) : Sem (Nat × Nat))).run P w = .ok (fs.toList.map fun f => (f.offset, (szT P f.type).getD 0)).toArray w := by
            rw [show fs = fs.toList.toArray from by simp, List.mapM_toArray]
            simp only [Sem.run_map]
            rw [run_places _ (by simpa using hall)]
            rfl
          have h1' : Instr.fill (fun x => ((fs.toList.map fun f => (f.offset, (szT P f.type).getD 0)).toArray)[x]?) vz.cells (parts.map fun p => (p.1, a.eval p.2)).toList = some cells' := by
            rw [hpl]; simpa using h1
          simp only [Sem.run_bind, zeroValue, typeInfo, run_program, Result.andThen_ok, hi, Sem.run_pure, hvz, run_underlying hu, hm]
          rw [h1']
          rfl
        refine wp_val (v := .agg cells') (w' := w) (by
          simp only [execOp, ho, Sem.run_bind]
          rw [show (fun x : Nat × Operand => match x with | (i, x) => (i, a.eval x)) = (fun p => (p.1, a.eval p.2)) from by funext x; cases x; rfl, hrun]
          rfl) ?_
        refine res_after (q' := q) g1 hq1 ?_ (fun h => h)
        have hag := RepC.agg _ _ h2
        simp only [Array.toArray_toList] at hag
        exact res_pure hI1 hk1 (RepV.of hag)
      · cases hz
    · cases hz
  · cases hk1
end
end Go.Eng
end

section
namespace Go.Eng
open Go.RowKit

section
variable {β : Type} {P : Program} {w0 : World} {S0 : Nat → Nat → Prop} {q : Bool} {G : Gh} {st : List Slot} {w : World} {K : HV → (HV → HV) → List Slot → Option β} {r : β} {o : Oper} {a : Act} {Q : Exit → Act → World → Prop}

theorem fill_row (sz : Nat) : ∀ (vs : List Value) (k : Nat) (cells : Array Value), (∀ v ∈ vs, v.cells.size = sz) → (k + vs.length) * sz ≤ cells.size →
    ∃ cells', Instr.fill (fun i => some (i * sz, sz)) cells ((List.range' k vs.length).zip vs) = some cells' ∧ cells'.toList = cells.toList.take (k * sz) ++ vs.flatMap (·.cells.toList) ++ cells.toList.drop ((k + vs.length) * sz) := by
  intro vs
  induction vs with
  | nil => intro k cells _ _; exact ⟨cells, rfl, by simp⟩
  | cons v vs ih =>
    intro k cells hv hle
    have hvs := hv v (by simp)
    have h1 : (k + (vs.length + 1)) * sz = k * sz + sz + vs.length * sz := by rw [Nat.add_mul, Nat.add_mul]; omega
    simp only [List.length_cons] at hle
    have hz := zipIdx_fold v.cells (k * sz) cells (by omega)
    obtain ⟨new, hnew⟩ : ∃ new, new = v.cells.zipIdx.foldl (fun cs (c, j) => cs.setIfInBounds (k * sz + j) c) cells := ⟨_, rfl⟩
    rw [← hnew] at hz
    have hns : new.size = cells.size := by
      have := congrArg List.length hz
      simp at this
      omega
    have h2 : (k + 1) * sz = k * sz + sz := Nat.succ_mul _ _
    have h3 : (k + 1 + vs.length) * sz = k * sz + sz + vs.length * sz := by rw [Nat.add_mul, Nat.add_mul]; omega
    obtain ⟨cells', hf, ht⟩ := ih (k + 1) new (fun u hu => hv u (by simp [hu])) (by omega)
    refine ⟨cells', ?_, ?_⟩
    · simp only [List.length_cons, List.range'_succ, List.zip_cons_cons]
      unfold Instr.fill
      simp only
      rw [if_neg (by simp; omega), ← hnew]
      exact hf
    · rw [ht, hz, h2]
      have hcl : v.cells.toList.length = sz := by simpa using hvs
      have hkl : (cells.toList.take (k * sz)).length = k * sz := by simp; omega
      simp only [List.length_cons, List.flatMap_cons]
      have hAB : (cells.toList.take (k * sz) ++ v.cells.toList).length = k * sz + sz := by rw [List.length_append, hkl, hcl]
      rw [h1, h3, hvs, List.take_left' hAB, ← List.drop_drop (i := vs.length * sz) (j := k * sz + sz), List.drop_left' hAB, List.drop_drop]
      simp only [List.append_assoc]

theorem RepTs.flat {S : Nat → Nat → Prop} {hs : List HV} {vs : List Value} (h : RepTs S w hs vs) : RepCs S w (hs.flatMap cellsH) (vs.flatMap (·.cells.toList)) := by
  induction h with
  | nil => exact .nil
  | cons x v xs vs h _ ih => simpa using h.cells.append ih

theorem flat_of_list {vs : List Value} : vs.flatMap (·.cells.toList) = flat vs.length (fun i => (vs.getD i Go.undef).cells.toList) := by
  unfold flat
  rw [List.flatMap_def, List.flatMap_def]
  congr 1
  apply List.ext_getElem?
  intro i
  simp only [List.getElem?_map, List.getElem?_range]
  by_cases hi : i < vs.length
  · simp [List.getElem?_eq_getElem hi, List.getElem?_range hi, List.getD_eq_getElem?_getD]
  · rw [List.getElem?_eq_none (by omega), List.getElem?_eq_none (by simp; omega)]
    rfl

theorem op_buildSlice {t len : Nat} {parts : Array (Nat × Operand)} {el sz by_ : Nat} {z : List HV} {hs : List HV} (ho : o.op = .buildSlice t len parts) (he : elemT P t = some (el, sz, z, by_)) (hI : Inv P w0 S0 G st w)
    (hl : hs.length = parts.toList.length) (hv : ∀ (i : Nat) h p, hs[i]? = some h → parts.toList[i]? = some p → RepV G w h (a.eval p.2))
    {K' : HV → List HV → List Slot → Option β} {e : List HV} (hid : ∀ v st, K' v e st = K v id st) (hk : (toCs q st hs fun vs st => builtS P q len el sz z (parts.toList.map (·.1)) (nzs P (parts.toList.map fun _ => el) vs) e st K') = some r) : o.wp P a w (OpRes P w0 S0 q G st w K r o a) Q := by
  obtain ⟨cs0, st1, S1, hk1, hI1, g1, hcs0, hq1, hl1⟩ := toCs_sound (vs := parts.toList.map fun p => a.eval p.2) hI (by simpa using hl)
    (fun i h v hi hvi => by
      rw [List.getElem?_map] at hvi
      cases hp : parts.toList[i]? with
      | none => rw [hp] at hvi; cases hvi
      | some p => rw [hp] at hvi; simp at hvi; subst hvi; exact hv i h p hi hp) hk
  have hcs := nzs_rep (P := P) (ts := parts.toList.map fun _ => el) hcs0
  generalize nzs P (parts.toList.map fun _ => el) cs0 = cs at hcs hk1
  unfold builtS at hk1
  simp only [hid] at hk1
  obtain ⟨hc, hk2⟩ := br_none hk1
  clear hk hk1
  simp only [Bool.and_eq_true, decide_eq_true_eq, List.all_eq_true, beq_iff_eq] at hc
  obtain ⟨⟨hlen, hidx⟩, hall⟩ := hc
  obtain ⟨i, vz, hu, hi, hz, hzc, h5, h6, hzl, hs0, hb0⟩ := elemT_inv he
  obtain ⟨vals, hvals⟩ : ∃ vals, vals = parts.toList.map fun p => a.eval p.2 := ⟨_, rfl⟩
  rw [← hvals] at hcs
  have hpl : parts.toList.length = len := by have := congrArg List.length hidx; simpa using this
  have hvl : vals.length = len := by rw [hvals, List.length_map, hpl]
  have hcl : cs.length = len := by rw [← hcs.length, hvl]
  have hvsz : ∀ v ∈ vals, v.cells.size = sz := by
    intro v hvm
    obtain ⟨p, hp, rfl⟩ := List.mem_iff_getElem.1 hvm
    obtain ⟨u, hu', hr⟩ := hcs.at (List.getElem?_eq_getElem (show p < cs.length by omega))
    rw [List.getElem?_eq_getElem (by omega)] at hu'
    injection hu' with hu'
    subst hu'
    have h1 := hr.cells.length
    rw [hall _ (List.getElem_mem _)] at h1
    simpa using h1
  obtain ⟨cells', hfill, hcells⟩ := fill_row sz vals 0 ((Array.range (len * sz)).map ((if len * sz = 0 then #[] else vz.cells)[· % (if len * sz = 0 then #[] else vz.cells).size]!)) hvsz (by simp [hvl])
  have hcells' : cells'.toList = vals.flatMap (·.cells.toList) := by
    rw [hcells, Nat.zero_mul, List.take_zero, List.nil_append, List.drop_of_length_le (by simp [hvl]), List.append_nil]
  have hzip : (parts.map fun p => (p.1, a.eval p.2)).toList = (List.range' 0 vals.length).zip vals := by
    rw [← List.range_eq_range', hvl, ← hidx, hvals, Array.toList_map]
    simp [List.zip_map', List.map_map, Function.comp_def]
  have hrun : (execOp a.eval o).run P w = .ok (.value (.slice (some ⟨w.heap.size, 0, none⟩) len len)) (w.alloc (.cells cells' el)) := by
    have hbs : (Instr.buildSlice t len (parts.map fun p => (p.1, a.eval p.2))).run P w = .ok (.slice (some ⟨w.heap.size, 0, none⟩) len len) (w.alloc (.cells cells' el)) := by
      unfold Instr.buildSlice
      simp only [Sem.run_bind, run_underlying hu, Result.andThen_ok, sizeOf, typeInfo, run_program, hi, Sem.run_pure, h5]
      rw [if_neg (by omega)]
      simp only [Sem.run_bind, Sem.run_ite, zeroValue, typeInfo, run_program, Result.andThen_ok, hi, Sem.run_pure, hz]
      rw [hzip]
      by_cases h0 : len * sz = 0
      · simp only [h0, if_true, Result.andThen_ok] at hfill ⊢
        rw [hfill]
        simp [newRow]
      · simp only [h0, if_false, Result.andThen_ok] at hfill ⊢
        rw [hfill]
        simp [newRow]
    simp only [execOp, ho, Sem.run_bind]
    rw [show (fun x : Nat × Operand => match x with | (i, x) => (i, a.eval x)) = (fun p => (p.1, a.eval p.2)) from by funext x; cases x; rfl, hbs]
    rfl
  obtain ⟨S2, hI2, g2, hc2, hat, hsn, hsall⟩ := hI1.newC (t := el) hcs.flat
  rw [← hcells', Array.toArray_toList] at hI2 g2 hat
  rw [← hcells'] at hsn hsall
  have hflat : cells'.toList = flat len (fun i => (vals.getD i Go.undef).cells.toList) := by rw [hcells', flat_of_list, hvl]
  have hcl3 : ∀ p, p < len → ((fun i => (vals.getD i Go.undef).cells.toList) p).length = sz := fun p hp => by
    have := hvsz vals[p] (List.getElem_mem (by omega))
    simpa [List.getD_eq_getElem?_getD, List.getElem?_eq_getElem (show p < vals.length by omega)] using this
  have hcsz : cells'.toList.length = len * sz := by rw [hflat, flat_length hcl3]
  have hreps : ∀ p, p < len → RepCs S2 (w.alloc (.cells cells' el)) (nthC (cs.map cellsH) z p) ((fun i => (vals.getD i Go.undef).cells.toList) p) := fun p hp => by
    obtain ⟨u, hu', hr⟩ := hcs.at (List.getElem?_eq_getElem (show p < cs.length by omega))
    have := (hr.mono g2).cells
    simpa [nthC, List.getD_eq_getElem?_getD, List.getElem?_eq_getElem (show p < cs.length by omega), hu'] using this
  have hrep : RepC S2 (w.alloc (.cells cells' el)) (.lst sz len (nthC (cs.map cellsH) z)) (.slice (some ⟨w.heap.size, 0, none⟩) len len) := by
    refine .lst sz len _ _ len _ hreps hcl3 (fun p hp => ?_) (Nat.le_refl _)
    refine hat _ _ (fun j u hj => ?_)
    have hjl : j < sz := by have := (List.getElem?_eq_some_iff.1 hj).1; rw [hcl3 p hp] at this; exact this
    rw [hflat, flat_get hcl3 hp hjl, hj]
  refine wp_val hrun ?_
  refine res_after (q' := q) g1 hq1 ?_ (fun h => h)
  rcases br_some hk2 with ⟨hq, hk3⟩ | ⟨hq, hk3⟩
  · exact ⟨_, _, id, st1, _, hk3, rfl, hI2, RepV.of hrep, fun h u k => RepV.mono (G := { G with S := S1 }) (G' := { G with S := S2 }) g2 (fun _ _ h => h) (fun _ _ h => h) k, fun _ => ⟨rfl, rfl, rfl, rfl⟩, g2⟩
  · have hml : len ≤ maxLen := by
      have := Nat.le_mul_of_pos_right len hs0
      simp only [maxLen]; omega
    have hown := World.ownsRow_lit (base := w0.heap.size) (e := el) (size := sz) w cells' len hI.below.size hml (by simpa using hcsz)
    have hblk : ∀ g, (Value.slice (some (⟨w.heap.size, 0, none⟩ : Addr)) len len).ownBlock = some g → g = w.heap.size := fun g h => by
      have : w.heap.size = g := by simpa [Value.ownBlock] using h
      exact this.symm
    have hI3 := hI2.pushT (v := .slice (some ⟨w.heap.size, 0, none⟩) len len) (s := .tok el) (fun g h => by rw [hblk g h]; exact ⟨hI.below.size, by simp⟩)
      (fun r' g h e => by have := (hI1.rnew _ _ h).2; rw [hblk g e] at this; omega) (fun t' u g h hu' e => by have := (hI1.tnew _ _ _ h hu').2; rw [hblk g e] at this; omega)
      ⟨_, len, sz, _, .inr ⟨rfl, rfl⟩, hown, by rw [hi]; simp [h5], fun g h o' hs' => by
        rw [hblk g h] at hs'
        rcases hsn _ _ hs' with hs' | ⟨_, hs'⟩
        · have := hI1.slt _ _ hs'; omega
        · omega⟩
    exact ⟨_, _, id, _, _, hk3, rfl, hI3, ⟨.inr ⟨rfl, rfl⟩, hrep⟩, fun h u k => RepV.mono (G := { G with S := S1 }) (G' := Eng.pushT { G with S := S2 } st1.length _) g2 (fun _ _ h => h) (fun _ _ h => .inl h) k, fun e => (by rw [hq] at e; cases e), g2⟩

theorem op_makeSlice {t : TypeId} {l c : Operand} {el sz by_ : Nat} {z : List HV} {x y : Int} (ho : o.op = .makeSlice t l c) (hq : q = false) (he : elemT P t = some (el, sz, z, by_)) (hI : Inv P w0 S0 G st w) (hvl : RepV G w (.int .i64 x) (a.eval l)) (hvc : RepV G w (.int .i64 y) (a.eval c))
    (hk : br (decide (x = y)) (br (decide (0 ≤ x ∧ x * by_ ≤ 140737488355328)) (K (.arr st.length sz 0 x.toNat) id (st ++ [.row true sz x.toNat (fun _ => z)])) none) none = some r) : o.wp P a w (OpRes P w0 S0 q G st w K r o a) Q := by
  obtain ⟨hxy, hk1⟩ := br_none hk
  obtain ⟨hb, hk2⟩ := br_none hk1
  simp only [decide_eq_true_eq] at hxy hb
  subst hxy
  obtain ⟨i, vz, hu, hi, hz, hzc, rfl, rfl, hzl, hs0, hb0⟩ := elemT_inv he
  have hl : a.eval l = .int .i64 x := by generalize hh : a.eval l = v at hvl; cases hvl; rfl
  have hc : a.eval c = .int .i64 x := by generalize hh : a.eval c = v at hvc; cases hvc; rfl
  have hx63 : x ≤ 9223372036854775807 := by
    have : x * 1 ≤ x * i.bytes := Int.mul_le_mul_of_nonneg_left (by omega) hb.1
    omega
  have hrun := run_make (P := P) w t el i vz hu hi hz .i64 .i64 x x hb.1 (Int.le_refl _) (by rw [Int.mul_comm]; omega) hx63
  have hzs := elemT_zero hzc hzl
  have hzrep := zeroV_rep (S := G.S) (w := w) hzc
  have hbl : Below w.heap.size w (w.alloc (.cells (madeCells vz.cells (x.toNat * i.size)) el)) := (Below.refl _ _).alloc (Nat.le_refl _) _
  have key := hI.grow hbl (S' := G.S) (fun _ _ h => h) (fun b o h => .inl h) (fun b o h => Nat.lt_of_lt_of_le (hI.slt b o h) hbl.size)
  have hh : (w.alloc (.cells (madeCells vz.cells (x.toNat * i.size)) el)).heap[w.heap.size]? = some (.cells (madeCells vz.cells (x.toNat * i.size)) el (0, 0)) := heap_alloc_new w _
  have hcell : ∀ p, p < x.toNat → ((madeCells vz.cells (x.toNat * i.size)).toList.drop (p * i.size)).take i.size = vz.cells.toList := by
    intro p hp
    have hpl : (p + 1) * i.size ≤ x.toNat * i.size := Nat.mul_le_mul_right _ hp
    rw [Nat.succ_mul] at hpl
    apply List.ext_getElem?
    intro j
    rw [List.getElem?_take]
    split
    · rename_i hj
      rw [List.getElem?_drop]
      simp only [madeCells, Array.toList_map, List.getElem?_map, Array.toList_range]
      rw [List.getElem?_range (by omega)]
      simp only [Option.map_some]
      rw [hzs, Nat.add_comm, Nat.add_mul_mod_self_right, Nat.mod_eq_of_lt hj]
      rw [Array.getElem?_toList, Array.getElem?_eq_getElem (by omega)]
      simp [getElem!_pos, hzs, hj]
    · rename_i hj
      rw [List.getElem?_eq_none (by simp; omega)]
  have hI2 := key.1.pushR (g := w.heap.size) (s := .row true i.size x.toNat (fun _ => z)) ⟨hI.below.size, by simp⟩ (fun r h => by have := (hI.rnew _ _ h).2; omega) (fun t v h e => by have := (hI.tnew _ _ _ h e).2; omega)
    ⟨w.heap.size, el, _, .inr ⟨rfl, rfl⟩, hI.below.size, hh, size_madeCells _ _, fun p hp => by rw [hcell p hp]; exact hzrep.mono key.2, fun _ o hs => by have := hI.slt _ _ hs; omega, fun e => by cases e⟩
  refine wp_val (v := .slice (some ⟨w.heap.size, 0, none⟩) x.toNat x.toNat) (by simp only [execOp, ho, hl, hc, Sem.run_bind, hrun]; rfl) ?_
  exact ⟨_, _, id, _, _, hk2, rfl, hI2, ⟨w.heap.size, _, x.toNat, .inr ⟨rfl, rfl⟩, rfl, Nat.le_refl _, fun _ => by simp⟩, fun h u k => RepV.mono (G := G) (G' := Eng.pushR G st.length w.heap.size) key.2 (fun _ _ h => .inl h) (fun _ _ h => h) k, fun e => (by rw [hq] at e; cases e), key.2⟩
end
end Go.Eng
end

section
namespace Go.Eng
open Go.RowKit
set_option linter.unusedSimpArgs false

section
variable {β : Type} {P : Program} {w0 : World} {S0 : Nat → Nat → Prop} {q : Bool} {G : Gh} {st : List Slot} {w : World} {K : HV → (HV → HV) → List Slot → Option β} {r : β} {o : Oper} {a : Act} {Q : Exit → Act → World → Prop}

theorem RepV.int_inv {k n v} (h : RepV G w (.int k n) v) : v = .int k n := by have h : RepC G.S w (.int k n) v := h; cases h; rfl
theorem RepV.bool_inv {b v} (h : RepV G w (.bool b) v) : v = .bool b := by have h : RepC G.S w (.bool b) v := h; cases h; rfl
theorem RepV.str_inv {s v} (h : RepV G w (.str s) v) : v = .string s := by have h : RepC G.S w (.str s) v := h; cases h; rfl
theorem RepV.agg_inv {cs v} (h : RepV G w (.agg cs) v) : ∃ cells : List Value, v = .agg cells.toArray ∧ RepCs G.S w cs cells := by
  have h : RepC G.S w (.agg cs) v := h
  cases h with | agg _ cells hh => exact ⟨cells, rfl, hh⟩
theorem RepV.fn_inv {f cs v} (h : RepV G w (.fn f cs) v) : ∃ vs : List Value, v = .func (.func f) #[] vs.toArray ∧ RepCs G.S w cs vs := by
  have h : RepC G.S w (.fn f cs) v := h
  cases h with | fn _ _ vs hh => exact ⟨vs, rfl, hh⟩

theorem add_add_ (ad : Addr) (m n : Nat) : (ad.add m).add n = ad.add (m + n) := by
  unfold Addr.add; by_cases h1 : m = 0 <;> by_cases h2 : n = 0 <;> simp_all [Nat.add_assoc]
theorem add_block_ (ad : Addr) (m : Nat) : (ad.add m).block = ad.block := by unfold Addr.add; split <;> rfl
theorem add_off_ (ad : Addr) (m : Nat) : (ad.add m).off = ad.off + m := by unfold Addr.add; split <;> simp_all

theorem beq_str (x y : ByteArray) : (x.toList == y.toList) = decide (x = y) := by
  rw [← beq_toListBytes]
  cases x with | mk x => cases y with | mk y =>
  show (x == y) = _
  by_cases h : x = y
  · subst h; simp
  · simp [h]

theorem op_field {t i : Nat} {x : Operand} {h : HV} (ho : o.op = .fieldAddr t x i) (hI : Inv P w0 S0 G st w) (hv : RepV G w h (a.eval x)) (hk : evField P t i h (fun v => K v id st) = some r) : o.wp P a w (OpRes P w0 S0 q G st w K r o a) Q := by
  unfold evField at hk
  split at hk
  · rename_i fs hu
    split at hk
    · rename_i f hf
      split at hk
      · rename_i n hn
        obtain ⟨hn0, hk2⟩ := br_none' hk
        have hn0 : n ≠ 0 := by simpa using hn0
        have hrun : ∀ ad : Addr, a.eval x = .pointer (some ad) → (execOp a.eval o).run P w = .ok (.value (.pointer (some (ad.add f.offset)))) w := by
          intro ad he
          unfold szT at hn
          split at hn
          · rename_i ii hi
            injection hn with hn
            simp [execOp, ho, Instr.fieldAt, he, run_underlying hu, hf, Instr.sureAddr, fieldPlace, sizeOf, typeInfo, hi, hn, hn0]
          · cases hn
        cases h with
        | ptr cs off =>
          obtain ⟨ad, cells, he, hc, hat⟩ := RepC.ptr_inv hv
          refine op_pure hI (hrun _ he) hk2 ?_
          rw [add_add_]
          exact RepV.of (.ptr cs _ ad cells hc hat)
        | var r' off =>
          obtain ⟨b, hR, he⟩ := hv
          refine op_pure hI (hrun _ he) hk2 ?_
          exact ⟨b, hR, by rw [addr_add]⟩
        | elt r' sz j off =>
          obtain ⟨b, hR, he⟩ := hv
          refine op_pure hI (hrun _ he) hk2 ?_
          exact ⟨b, hR, by rw [addr_add, Nat.add_assoc]⟩
        | _ => cases hk2
      · cases hk
    · cases hk
  · cases hk

theorem op_index {t : Nat} {x ix : Operand} {h : HV} {k : IntKind} {i : Int} {el sz by_ : Nat} {z : List HV} (ho : o.op = .indexAddr t x ix) (he : elemT P t = some (el, sz, z, by_)) (hI : Inv P w0 S0 G st w) (hv : RepV G w h (a.eval x)) (hvi : RepV G w (.int k i) (a.eval ix))
    (hk : evIdx h i sz (fun v => K v id st) = some r) : o.wp P a w (OpRes P w0 S0 q G st w K r o a) Q := by
  obtain ⟨ii, vz, hu, hi, hz, hzc, h5, h6, hzl, hs0, hb0⟩ := elemT_inv he
  have hix := RepV.int_inv hvi
  have hrun : ∀ (ad : Addr) (n c : Nat), a.eval x = .slice (some ad) n c → 0 ≤ i → i < n → (execOp a.eval o).run P w = .ok (.value (.pointer (some (ad.add (i.toNat * sz))))) w := by
    intro ad n c hx h0 h1
    simp [execOp, ho, Instr.indexAt, hx, hix, asIntOf, run_underlying hu, h0, h1, sizeOf, typeInfo, hi, h5]
  have plain : ∀ (n : Nat) (f : Nat → List HV), RepC G.S w (.lst sz n f) (a.eval x) → 0 ≤ i → i < n → K (.ptr (f i.toNat) 0) id st = some r → o.wp P a w (OpRes P w0 S0 q G st w K r o a) Q := by
    intro n f hl h0 h1 hK
    obtain ⟨A, c, cells, hx, hc, hlen, hat, hnc⟩ := RepC.lst_inv hl
    have hin : i.toNat < n := by omega
    have hl1 := hlen _ hin
    obtain ⟨ad, hA, _, _⟩ := hat _ hin 0 _ (List.getElem?_eq_getElem (by omega))
    subst hA
    refine op_pure hI (hrun ad n c hx h0 h1) hK ?_
    have := RepC.ptr (f i.toNat) 0 (ad.add (i.toNat * sz)) _ (hc _ hin) (fun j u hj => by
      obtain ⟨ad', e, h2, h3⟩ := hat _ hin j u hj
      injection e with e
      subst e
      exact ⟨_, rfl, by rw [add_add_, Nat.zero_add]; exact h2, by rw [add_block_, add_off_, Nat.zero_add, Nat.add_assoc]; exact h3⟩)
    rw [add_add_, Nat.add_zero] at this
    exact RepV.of this
  unfold evIdx at hk
  split at hk
  · rename_i s n f
    obtain ⟨hs, hk2⟩ := br_none hk
    obtain ⟨hb, hk3⟩ := br_none hk2
    clear hk hk2
    have hs : s = sz := by simpa using hs
    subst hs
    simp only [decide_eq_true_eq] at hb
    exact plain _ _ hv hb.1 hb.2 hk3
  · rename_i t' s n f
    obtain ⟨hs, hk2⟩ := br_none hk
    obtain ⟨hb, hk3⟩ := br_none hk2
    clear hk hk2
    have hs : s = sz := by simpa using hs
    subst hs
    simp only [decide_eq_true_eq] at hb
    exact plain _ _ hv.2 hb.1 hb.2 hk3
  · rename_i r' s lo n
    obtain ⟨hs, hk2⟩ := br_none hk
    obtain ⟨hb, hk3⟩ := br_none hk2
    clear hk hk2
    have hs : s = sz := by simpa using hs
    subst hs
    simp only [decide_eq_true_eq] at hb
    obtain ⟨g, A, c, hR, hx, hnc, hA⟩ := hv
    have hA := hA (by omega)
    subst hA
    refine op_pure hI (hrun _ n c hx hb.1 hb.2) hk3 ?_
    exact ⟨g, hR, by rw [addr_add, Nat.add_mul, Nat.add_zero]⟩
  · cases hk

theorem run_sliceN {isSlice : Bool} {n cap : Nat} {lo hi : Option HV} {vlo vhi : Option Value} {K : Nat → Nat → Option β} {r : β} (hlo : ∀ h, lo = some h → ∃ v, vlo = some v ∧ RepV G w h v) (hlo' : lo = none → vlo = none) (hhi : ∀ h, hi = some h → ∃ v, vhi = some v ∧ RepV G w h v) (hhi' : hi = none → vhi = none) (hn : n ≤ cap)
    (hk : sliceN n lo hi K = some r) : ∃ l h, K l h = some r ∧ l ≤ h ∧ h ≤ n ∧ (Instr.sliceBounds isSlice n cap vlo vhi none).run P w = .ok (l, h, cap) w := by
  unfold sliceN at hk
  split at hk
  · rename_i hh ll hhe hle
    obtain ⟨h1, hk2⟩ := br_none hk
    obtain ⟨h2, hk3⟩ := br_none hk2
    simp only [decide_eq_true_eq] at h1 h2
    refine ⟨_, _, hk3, by omega, by omega, ?_⟩
    rcases hi with _ | hi'
    · have ev1 := hhi' rfl
      injection hhe with hhe
      subst hhe
      rcases lo with _ | lo'
      · have ev2 := hlo' rfl
        injection hle with hle
        subst hle
        subst ev1 ev2
        simp [Instr.sliceBounds]
      · obtain ⟨v, hv, hr⟩ := hlo _ rfl
        subst ev1 hv
        cases lo' <;> try (cases hle; done)
        rename_i kk nn
        cases kk <;> try (cases hle; done)
        simp only [Option.some.injEq] at hle
        subst hle
        rw [RepV.int_inv hr]
        simp only [Instr.sliceBounds, Instr.sliceBound, asIntOf, Sem.run_bind, Sem.run_pure, Result.andThen_ok, Int.toNat_natCast, Sem.run_ite]
        rw [if_pos (by omega)]
        simp
    · obtain ⟨v, hv, hr⟩ := hhi _ rfl
      subst hv
      cases hi' <;> try (cases hhe; done)
      rename_i kk nn
      cases kk <;> try (cases hhe; done)
      simp only [Option.some.injEq] at hhe
      subst hhe
      rw [RepV.int_inv hr]
      rcases lo with _ | lo'
      · have ev2 := hlo' rfl
        injection hle with hle
        subst hle
        subst ev2
        simp only [Instr.sliceBounds, Instr.sliceBound, asIntOf, Sem.run_bind, Sem.run_pure, Result.andThen_ok, Int.toNat_natCast, Sem.run_ite]
        rw [if_pos (by omega)]
        simp
      · obtain ⟨v, hv, hr2⟩ := hlo _ rfl
        subst hv
        cases lo' <;> try (cases hle; done)
        rename_i kk2 nn2
        cases kk2 <;> try (cases hle; done)
        simp only [Option.some.injEq] at hle
        subst hle
        rw [RepV.int_inv hr2]
        simp only [Instr.sliceBounds, Instr.sliceBound, asIntOf, Sem.run_bind, Sem.run_pure, Result.andThen_ok, Int.toNat_natCast, Sem.run_ite]
        rw [if_pos (by omega)]
        simp only [Sem.run_pure, Result.andThen_ok]
        rw [if_pos (by omega)]
        simp
  · cases hk

theorem op_slice {t : TypeId} {x : Operand} {lo hi : Option Operand} {h : HV} {hlo hhi : Option HV} (ho : o.op = .slice t x lo hi none) (hI : Inv P w0 S0 G st w) (hv : RepV G w h (a.eval x))
    (h1 : ∀ h, hlo = some h → ∃ v, lo.map a.eval = some v ∧ RepV G w h v) (h1' : hlo = none → lo.map a.eval = none) (h2 : ∀ h, hhi = some h → ∃ v, hi.map a.eval = some v ∧ RepV G w h v) (h2' : hhi = none → hi.map a.eval = none)
    (hk : evSlice P t h hlo hhi (fun v => K v id st) = some r) : o.wp P a w (OpRes P w0 S0 q G st w K r o a) Q := by
  have plain : ∀ (el sz n : Nat) (f : Nat → List HV), P.underlying t = some (.slice el) → RepC G.S w (.lst sz n f) (a.eval x) →
      br (szT P el == some sz) (sliceN n hlo hhi fun l h => K (.lst sz (h - l) (cutF (h - l) l f (zOf P t))) id st) none = some r → o.wp P a w (OpRes P w0 S0 q G st w K r o a) Q := by
    intro el sz n f hu hl hk
    obtain ⟨hs, hk2⟩ := br_none hk
    have hs : szT P el = some sz := by simpa using hs
    obtain ⟨A, c, cells, hx, hc, hlen, hat, hnc⟩ := RepC.lst_inv hl
    obtain ⟨l, h, hK, hlh, hhn, hrun⟩ := run_sliceN (P := P) (isSlice := true) h1 h1' h2 h2' hnc hk2
    unfold szT at hs
    split at hs
    · rename_i ii hi
      injection hs with hs
      refine op_pure (v := .slice (if c = l then A else A.map (·.add (l * sz))) (h - l) (c - l)) hI (by
        simp only [execOp, ho, Instr.sliceAt, Sem.run_bind, run_underlying hu, Result.andThen_ok, Instr.slice, hx, hrun, sizeOf, typeInfo, run_program, hi, Sem.run_pure, hs, Option.map_none]) hK ?_
      refine RepV.of (.lst sz (h - l) _ _ (c - l) (fun i => cells (l + i)) (fun i hi => by simp only [cutF, hi, decide_true, cond_true]; exact hc _ (by omega)) (fun i hi => hlen _ (by omega)) (fun i hi => ?_) (by omega))
      intro j u hj
      rw [if_neg (by omega)]
      obtain ⟨ad, hA, h3, h4⟩ := hat (l + i) (by omega) j u hj
      subst hA
      refine ⟨_, rfl, ?_, ?_⟩
      · rw [add_add_]
        rwa [Nat.add_mul, Nat.add_assoc] at h3
      · rw [add_block_, add_off_]
        rw [Nat.add_mul] at h4
        rw [Nat.add_assoc]
        rwa [Nat.add_assoc] at h4
    · cases hs
  unfold evSlice at hk
  split at hk
  · rename_i s hu
    obtain ⟨l, h, hK, hlh, hhn, hrun⟩ := run_sliceN (P := P) (isSlice := false) (cap := s.size) h1 h1' h2 h2' (Nat.le_refl _) hk
    have hx := RepV.str_inv hv
    refine op_pure (v := .string (s.extract l h)) hI (by
      simp only [execOp, ho, Instr.sliceAt, Sem.run_bind, run_underlying hu, Result.andThen_ok, Instr.slice, hx, hrun, Option.map_none, Option.isSome_none, Bool.false_eq_true, if_false, Sem.run_pure]) hK (RepV.of (.str _))
  · rename_i el sz n f hu
    exact plain el sz n f hu hv hk
  · rename_i el t' sz n f hu
    exact plain el sz n f hu hv.2 hk
  · rename_i el hu
    split at hk
    rotate_left
    · cases hk
    rename_i nn hnn
    obtain ⟨ii, hi⟩ : ∃ ii, P.info? el = some ii := by
      unfold szT at hnn
      split at hnn
      · exact ⟨_, by assumption⟩
      · cases hnn
    obtain ⟨l, h, hK, hlh, hhn, hrun⟩ := run_sliceN (P := P) (isSlice := true) (cap := 0) h1 h1' h2 h2' (Nat.le_refl _) hk
    have hx := RepV.nils_inv hv
    have hl : l = 0 := by omega
    have hh : h = 0 := by omega
    subst hl; subst hh
    refine op_pure (v := .slice none 0 0) hI (by
      simp only [execOp, ho, Instr.sliceAt, Sem.run_bind, run_underlying hu, Result.andThen_ok, Instr.slice, hx, hrun, sizeOf, typeInfo, run_program, hi, Sem.run_pure, Option.map_none]; rfl) hK (RepV.of .nils)
  · cases hk
end
end Go.Eng
end

section
namespace Go.Eng
open Go.RowKit
set_option linter.unusedSimpArgs false

section
variable {β : Type} {P : Program} {w0 : World} {S0 : Nat → Nat → Prop} {q : Bool} {G : Gh} {st : List Slot} {w : World} {K : HV → (HV → HV) → List Slot → Option β} {r : β} {o : Oper} {a : Act} {Q : Exit → Act → World → Prop}

theorem eqC_run {S : Nat → Nat → Prop} {d : Nat} {ft : TypeId} {x y : HV} {u v : Value} {b : Bool} (hx : RepC S w x u) (hy : RepC S w y v) (he : eqC x y = some b) (hfx : fitC P ft x = true) :
    (Op.equalIn (d + 1) ft u v).run P w = .ok b w := by
  cases x with
  | int k n => cases y with
    | int k' m =>
      simp only [eqC] at he
      split at he
      · rename_i hkk
        subst hkk
        injection he with he
        subst he
        cases hx; cases hy
        unfold fitC at hfx
        split at hfx <;> first | cases hfx | skip
        exact run_equalIn_int w d ft _ _ n m (by assumption)
      · cases he
    | _ => simp [eqC] at he
  | bool n => cases y with
    | bool m =>
      simp only [eqC] at he
      injection he with he
      subst he
      cases hx; cases hy
      unfold fitC at hfx
      split at hfx <;> first | cases hfx | skip
      exact run_equalIn_bool' w d ft n m (by assumption)
    | _ => simp [eqC] at he
  | str n => cases y with
    | str m =>
      simp only [eqC] at he
      injection he with he
      subst he
      cases hx; cases hy
      unfold fitC at hfx
      split at hfx <;> first | cases hfx | skip
      rw [run_equalIn_string w d ft n m (by assumption), beq_str]
    | _ => simp [eqC] at he
  | _ => simp [eqC] at he

theorem part_run {t : TypeId} {cs : Array Value} {k : Nat} {v : Value} (h : cs[k]? = some v) (hp : plainT P t = true) : (part t cs k).run P w = .ok v w := by
  unfold plainT at hp
  have hagg : (isAgg t).run P w = .ok false w := by
    unfold isAgg
    split at hp <;> first | cases hp | skip
    all_goals (rename_i hu; simp [run_underlying hu])
  unfold part
  simp [hagg, h]

theorem eqCs_run {S : Nat → Nat → Prop} {d : Nat} : ∀ (fs : List Field) (k : Nat) (hs hs' : List HV) (xs ys : Array Value) (b : Bool), flatFs P k fs = true → fitsT P fs hs = true → fitsT P fs hs' = true → RepCs S w hs (xs.toList.drop k) → RepCs S w hs' (ys.toList.drop k) → eqCs hs hs' = some b →
    (Op.eqFields (d + 1) xs ys fs).run P w = .ok b w := by
  intro fs
  induction fs with
  | nil =>
    intro k hs hs' xs ys b _ h1 h2 _ _ he
    cases hs with
    | cons => simp [fitsT] at h1
    | nil => cases hs' with
      | cons => simp [fitsT] at h2
      | nil => simp only [eqCs] at he; injection he with he; subst he; simp [Op.eqFields]
  | cons f fs ih =>
    intro k hs hs' xs ys b hf h1 h2 hx hy he
    cases hs with
    | nil => simp [fitsT] at h1
    | cons x hs => cases hs' with
      | nil => simp [fitsT] at h2
      | cons y hs' =>
        simp only [flatFs, Bool.and_eq_true, bne_iff_ne, ne_eq, beq_iff_eq] at hf
        obtain ⟨⟨⟨hname, hoff⟩, hpl⟩, hrest⟩ := hf
        simp only [fitsT, Bool.and_eq_true] at h1 h2
        cases hxd : xs.toList.drop k with
        | nil => rw [hxd] at hx; cases hx
        | cons u us =>
          cases hyd : ys.toList.drop k with
          | nil => rw [hyd] at hy; cases hy
          | cons v vs =>
            rw [hxd] at hx
            rw [hyd] at hy
            cases hx with | cons _ _ _ _ hxu _ hxs =>
            cases hy with | cons _ _ _ _ hyv _ hys =>
            have hxk : xs[k]? = some u := by have := congrArg (·[0]?) hxd; simpa using this
            have hyk : ys[k]? = some v := by have := congrArg (·[0]?) hyd; simpa using this
            have hxs' : us = xs.toList.drop (k + 1) := by rw [← List.tail_drop, hxd]; rfl
            have hys' : vs = ys.toList.drop (k + 1) := by rw [← List.tail_drop, hyd]; rfl
            rw [hxs'] at hxs
            rw [hys'] at hys
            have hval : ∃ b1 b2, eqC x y = some b1 ∧ (Op.eqFields (d + 1) xs ys fs).run P w = .ok b2 w ∧ b = (b1 && b2) := by
              cases hs with
              | nil => cases hs' with
                | nil =>
                  simp only [eqCs] at he
                  refine ⟨b, true, he, ?_, by simp⟩
                  exact ih (k + 1) [] [] xs ys true hrest h1.2 h2.2 hxs hys rfl
                | cons y2 hs' => cases fs with
                  | nil => simp [fitsT] at h2
                  | cons => simp [fitsT] at h1
              | cons x2 hs => cases hs' with
                | nil => cases fs with
                  | nil => simp [fitsT] at h1
                  | cons => simp [fitsT] at h2
                | cons y2 hs' =>
                  simp only [eqCs] at he
                  split at he
                  · rename_i b1 b2 he1 he2
                    injection he with he
                    exact ⟨b1, b2, he1, ih (k + 1) _ _ xs ys b2 hrest h1.2 h2.2 hxs hys he2, he.symm⟩
                  · cases he
            obtain ⟨b1, b2, he1, he2, rfl⟩ := hval
            unfold Op.eqFields
            rw [if_pos hname]
            simp only [Sem.run_bind, hoff, part_run hxk hpl, part_run hyk hpl, Result.andThen_ok, eqC_run (d := d) hxu hyv he1 h1.1, Sem.run_ite]
            cases b1 with
            | false => simp
            | true => simpa using he2

theorem eqGuard_flat {t : TypeId} {fs : Array Field} (hu : P.underlying t = some (.struct fs)) (hf : flatFs P 0 fs.toList = true) {op : BinOp} {x y : Operand} {us vs : Array Value} : (eqGuard op t x y (.agg us) (.agg vs)).run P w = .ok () w := by
  have key : ∀ (d k : Nat) (l : List Field), flatFs P k l = true → l.any (fun f => f.name != "_" && P.eqGuardType (d + 1) f.type) = false := by
    intro d k l
    induction l generalizing k with
    | nil => intro _; rfl
    | cons f l ih =>
      intro h
      simp only [flatFs, Bool.and_eq_true] at h
      rw [List.any_cons, ih (k + 1) h.2, Bool.or_false]
      have hp := h.1.2
      unfold plainT at hp
      have : P.eqGuardType (d + 1) f.type = false := by
        unfold Program.eqGuardType
        split at hp <;> first | cases hp | skip
        all_goals (rename_i hu'; rw [hu'])
      rw [this, Bool.and_false]
  have hg : P.eqGuardType P.depth t = false := by
    have hd : ∃ d, P.depth = d + 2 := ⟨2 * (P.types.size + Made.depth), rfl⟩
    obtain ⟨d, hd⟩ := hd
    rw [hd]
    unfold Program.eqGuardType
    rw [hu]
    simp only
    have := key d 0 fs.toList hf
    rw [← Array.any_toList]
    exact this
  unfold eqGuard
  cases op <;> simp [hg]

theorem eqGuard_ptr {t : TypeId} {op : BinOp} {x y : Operand} {u : Option Addr} {v : Value} : (eqGuard op t x y (.pointer u) v).run P w = .ok () w := by
  unfold eqGuard
  cases op <;> simp
theorem eqGuard_plain {t : TypeId} {op : BinOp} {x y : Operand} {u v : Value} (h : (∃ k n, u = .int k n) ∨ (∃ b, u = .bool b) ∨ (∃ s, u = .string s)) : (eqGuard op t x y u v).run P w = .ok () w := by
  unfold eqGuard
  rcases h with ⟨k, n, rfl⟩ | ⟨b, rfl⟩ | ⟨s, rfl⟩ <;> cases op <;> simp

theorem op_bin {op : BinOp} {t yt : TypeId} {x y : Operand} {hx hy : HV} (ho : o.op = .binOp op t x y yt) (hI : Inv P w0 S0 G st w) (hvx : RepV G w hx (a.eval x)) (hvy : RepV G w hy (a.eval y))
    (hk : evBin P op t hx hy (fun v => K v id st) = some r) : o.wp P a w (OpRes P w0 S0 q G st w K r o a) Q := by
  have fin : ∀ (hv : HV) (v : Value), (eqGuard op t x y (a.eval x) (a.eval y)).run P w = .ok () w → (binOp op t (a.eval x) (a.eval y)).run P w = .ok v w → K hv id st = some r → RepV G w hv v → o.wp P a w (OpRes P w0 S0 q G st w K r o a) Q := by
    intro hv v h1 h2 h3 h4
    exact op_pure hI (by simp [execOp, ho, h1, h2]) h3 h4
  have ptrs : ∀ (u : Option Addr) (v : Option Addr) (b : Bool) (e : TypeId), P.underlying t = some (.pointer e) → a.eval x = .pointer u → a.eval y = .pointer v → v = none → b = u.isNone →
      (match op with | .eql => K (.bool b) id st | .neq => K (.bool (!b)) id st | _ => none) = some r → o.wp P a w (OpRes P w0 S0 q G st w K r o a) Q := by
    intro u v b e hu h1 h2 h3 h4 h5
    subst h3
    have he : (Op.equal t (.pointer u) (.pointer none)).run P w = .ok b w := by
      subst h4
      have key : ∀ d, (Op.equalIn (d + 1) t (.pointer u) (.pointer none)).run P w = .ok u.isNone w := by
        intro d
        cases u <;> simp [Op.equalIn, run_underlying hu]
      exact key 9999
    have hg : (eqGuard op t x y (a.eval x) (a.eval y)).run P w = .ok () w := by rw [h1]; exact eqGuard_ptr
    cases op <;> first | cases h5 | skip
    · exact fin _ _ hg (by rw [h1, h2]; simp [binOp, he]) h5 (RepV.of (.bool _))
    · exact fin _ _ hg (by rw [h1, h2]; simp [binOp, he]) h5 (RepV.of (.bool _))
  unfold evBin at hk
  split at hk
  · rename_i k m k' n
    have e1 := RepV.int_inv hvx
    have e2 := RepV.int_inv hvy
    have hg : (eqGuard op t x y (a.eval x) (a.eval y)).run P w = .ok () w := eqGuard_plain (.inl ⟨_, _, e1⟩)
    by_cases hkk : k = k'
    rotate_left
    · simp only [hkk, if_false] at hk; cases hk
    simp only [hkk, if_true] at hk
    · subst hkk
      cases op <;> first | cases hk | skip
      all_goals (refine fin _ _ hg (by rw [e1, e2]; simp only [binOp, ne_eq, not_true_eq_false, if_false, Op.intArith, Op.intCmp, Sem.run_pure]; rfl) hk ?_)
      all_goals first | exact RepV.of (.int _ _) | skip
      · have : (m == n) = decide (m = n) := by rw [Bool.eq_iff_iff]; simp
        rw [this]; exact RepV.of (.bool _)
      · have : (m != n) = !decide (m = n) := by rw [Bool.eq_iff_iff]; simp
        rw [this]; exact RepV.of (.bool _)
      all_goals exact RepV.of (.bool _)
  · rename_i m n
    have e1 := RepV.str_inv hvx
    have e2 := RepV.str_inv hvy
    have hg : (eqGuard op t x y (a.eval x) (a.eval y)).run P w = .ok () w := eqGuard_plain (.inr (.inr ⟨_, e1⟩))
    cases op <;> first | cases hk | skip
    · obtain ⟨hc, hk2⟩ := br_none hk
      simp only [decide_eq_true_eq] at hc
      refine fin _ (.string (m ++ n)) hg (by
        rw [e1, e2]
        simp only [binOp, Op.stringOp, Sem.run_ite]
        rw [if_neg (by simp [IntKind.max, IntKind.signed, IntKind.bits]; omega)]
        rfl) hk2 (RepV.of (.str _))
    · refine fin _ _ hg (by rw [e1, e2]; simp only [binOp, Op.stringOp, Sem.run_pure]; rfl) hk ?_
      rw [beq_str]; exact RepV.of (.bool _)
    · refine fin _ _ hg (by rw [e1, e2]; simp only [binOp, Op.stringOp, Sem.run_pure]; rfl) hk ?_
      rw [beq_str]; exact RepV.of (.bool _)
  · rename_i m n
    have e1 := RepV.bool_inv hvx
    have e2 := RepV.bool_inv hvy
    have hg : (eqGuard op t x y (a.eval x) (a.eval y)).run P w = .ok () w := eqGuard_plain (.inr (.inl ⟨_, e1⟩))
    simp only at hk
    split at hk
    · rename_i hu
      have he : (Op.equal t (.bool m) (.bool n)).run P w = .ok (m == n) w := run_equalIn_bool' w 9999 t m n hu
      cases op <;> first | cases hk | skip
      · exact fin _ _ hg (by rw [e1, e2]; simp [binOp, he]) hk (RepV.of (.bool _))
      · exact fin _ _ hg (by rw [e1, e2]; simp [binOp, he]) hk (RepV.of (.bool _))
    · cases hk
  · rename_i as bs
    obtain ⟨hf, hk2⟩ := br_none hk
    obtain ⟨us, e1, hr1⟩ := RepV.agg_inv hvx
    obtain ⟨vs, e2, hr2⟩ := RepV.agg_inv hvy
    unfold flatT at hf
    split at hf
    · rename_i fs hu
      simp only [Bool.and_eq_true, Bool.not_eq_true'] at hf
      obtain ⟨⟨⟨h1, h2⟩, h3⟩, h4⟩ := hf
      split at hk2
      · rename_i b hb
        have hfo : P.fieldsOf t = fs := by unfold Program.fieldsOf; rw [hu]
        have he : (Op.equal t (.agg us.toArray) (.agg vs.toArray)).run P w = .ok b w := by
          unfold Op.equal Op.maxDepth
          rw [run_equalIn_struct w 9999 t _ _ (by rw [hfo]; exact hu) h1, hfo]
          exact eqCs_run fs.toList 0 as bs _ _ b h2 h3 h4 (by simpa using hr1) (by simpa using hr2) hb
        have hg : (eqGuard op t x y (a.eval x) (a.eval y)).run P w = .ok () w := by rw [e1, e2]; exact eqGuard_flat hu h2
        cases op <;> first | cases hk2 | skip
        · exact fin _ _ hg (by rw [e1, e2]; simp [binOp, he]) hk2 (RepV.of (.bool _))
        · exact fin _ _ hg (by rw [e1, e2]; simp [binOp, he]) hk2 (RepV.of (.bool _))
      · cases hk2
    · cases hf
  · simp only at hk
    split at hk
    · rename_i e hu
      obtain ⟨ad, cells, e1, _⟩ := RepC.ptr_inv hvx
      have e2 : a.eval y = .pointer none := by have h : RepC G.S w .nilp (a.eval y) := hvy; generalize a.eval y = v at h; cases h; rfl
      exact ptrs _ _ false e hu e1 e2 rfl rfl (by cases op <;> first | cases hk | exact hk)
    · cases hk
  · simp only at hk
    split at hk
    · rename_i e hu
      obtain ⟨b, _, e1⟩ := hvx
      have e2 : a.eval y = .pointer none := by have h : RepC G.S w .nilp (a.eval y) := hvy; generalize a.eval y = v at h; cases h; rfl
      exact ptrs _ _ false e hu e1 e2 rfl rfl (by cases op <;> first | cases hk | exact hk)
    · cases hk
  · simp only at hk
    split at hk
    · rename_i e hu
      obtain ⟨b, _, e1⟩ := hvx
      have e2 : a.eval y = .pointer none := by have h : RepC G.S w .nilp (a.eval y) := hvy; generalize a.eval y = v at h; cases h; rfl
      exact ptrs _ _ false e hu e1 e2 rfl rfl (by cases op <;> first | cases hk | exact hk)
    · cases hk
  · simp only at hk
    split at hk
    · rename_i e hu
      have e1 : a.eval x = .pointer none := by have h : RepC G.S w .nilp (a.eval x) := hvx; generalize a.eval x = v at h; cases h; rfl
      have e2 : a.eval y = .pointer none := by have h : RepC G.S w .nilp (a.eval y) := hvy; generalize a.eval y = v at h; cases h; rfl
      exact ptrs _ _ true e hu e1 e2 rfl rfl (by cases op <;> first | cases hk | exact hk)
    · cases hk
  · cases hk
end
end Go.Eng
end

section
namespace Go.Eng
open Go.RowKit
set_option linter.unusedSimpArgs false
set_option linter.unusedVariables false

theorem RepCs.ts {S : Nat → Nat → Prop} {w : World} : ∀ {hs : List HV} {vs : List Value}, RepCs S w hs vs → RepTs S w hs vs
  | _, _, .nil => .nil
  | _, _, .cons x v xs vs h _ hs => .cons x v xs vs h (RepCs.ts hs)
theorem RepTs.append {S : Nat → Nat → Prop} {w : World} {hs vs hs' vs'} (h : RepTs S w hs vs) (h' : RepTs S w hs' vs') : RepTs S w (hs ++ hs') (vs ++ vs') := by
  induction h with
  | nil => exact h'
  | cons x v xs vs h _ ih => exact .cons _ _ _ _ h ih
theorem toC_one {S : Nat → Nat → Prop} {w : World} {c : HV} {v : Value} (h : RepC S w c v) (hn : isCell c = true) : v.oneCell' = true := by
  cases h <;> first | rfl | assumption | cases hn
theorem RepTs.cs {S : Nat → Nat → Prop} {w : World} {hs vs} (h : RepTs S w hs vs) (h1 : hs.all isCell = true) : RepCs S w hs vs := by
  induction h with
  | nil => exact .nil
  | cons x v xs vs h _ ih =>
    simp only [List.all_cons, Bool.and_eq_true] at h1
    exact .cons _ _ _ _ h (toC_one h h1.1) (ih h1.2)

section
variable {β : Type} {P : Program} {w0 : World} {S0 : Nat → Nat → Prop} {q : Bool} {G : Gh} {st : List Slot} {w : World} {K : HV → (HV → HV) → List Slot → Option β} {r : β} {o : Oper} {a : Act} {Q : Exit → Act → World → Prop}

theorem op_un {op : UnOp} {t : TypeId} {x : Operand} {h : HV} (ho : o.op = .unOp op t x) (hI : Inv P w0 S0 G st w) (hv : RepV G w h (a.eval x)) (hk : evUn op h (fun v => K v id st) = some r) : o.wp P a w (OpRes P w0 S0 q G st w K r o a) Q := by
  unfold evUn at hk
  split at hk
  · have e := RepV.bool_inv hv
    exact op_pure hI (by simp [execOp, ho, e, Op.unary]) hk (RepV.of (.bool _))
  · have e := RepV.int_inv hv
    exact op_pure hI (by simp only [execOp, ho, e, Op.unary, Op.intArith, Sem.run_bind, Sem.run_pure, Result.andThen_ok]) hk (RepV.of (.int _ _))
  · cases hk

theorem op_conv {src dst : TypeId} {x : Operand} {d : TypeDesc} {k k' : IntKind} {n : Int} (ho : o.op = .convert src dst x) (hs : P.underlying src = some d) (hd : P.underlying dst = some (.int k)) (hI : Inv P w0 S0 G st w) (hv : RepV G w (.int k' n) (a.eval x))
    (hk : K (.int k (k.wrap n)) id st = some r) : o.wp P a w (OpRes P w0 S0 q G st w K r o a) Q := by
  have e := RepV.int_inv hv
  refine op_pure hI ?_ hk (RepV.of (.int _ _))
  simp only [execOp, ho, e, convert, Sem.run_bind, run_underlying hs, run_underlying hd, Result.andThen_ok]
  rfl

theorem op_nilCheck {x : Operand} {h : HV} (ho : o.op = .nilCheck x) (hp : (∃ cs off, h = .ptr cs off) ∨ (∃ r off, h = .var r off) ∨ (∃ r sz i off, h = .elt r sz i off)) (hI : Inv P w0 S0 G st w) (hv : RepV G w h (a.eval x))
    (hk : K h id st = some r) : o.wp P a w (OpRes P w0 S0 q G st w K r o a) Q := by
  have : ∃ ad, a.eval x = .pointer (some ad) := by
    rcases hp with ⟨cs, off, rfl⟩ | ⟨r', off, rfl⟩ | ⟨r', sz, i, off, rfl⟩
    · obtain ⟨ad, cells, he, _⟩ := RepC.ptr_inv hv; exact ⟨_, he⟩
    · obtain ⟨b, _, he⟩ := hv; exact ⟨_, he⟩
    · obtain ⟨b, _, he⟩ := hv; exact ⟨_, he⟩
  obtain ⟨ad, he⟩ := this
  exact op_pure (v := .pointer (some ad)) hI (by simp [execOp, ho, he]) hk (by rw [← he]; exact hv)

theorem op_extract {t : Operand} {i : Nat} {vs : List HV} {v : HV} (ho : o.op = .extract t i) (hI : Inv P w0 S0 G st w) (hv : RepV G w (.tup vs) (a.eval t)) (hi : vs[i]? = some v) (hk : K v id st = some r) : o.wp P a w (OpRes P w0 S0 q G st w K r o a) Q := by
  obtain ⟨us, he, hr⟩ := hv
  obtain ⟨u, hu, hru⟩ := hr.at hi
  exact op_pure hI (by simp [execOp, ho, he, Instr.extract, hu]) hk (RepV.of hru)

theorem op_len {c : Call} {x : Operand} {t : TypeId} {n : Nat} (ho : o.op = .call c) (hc : c.callee = .builtin .len) (ha : c.args.toList = [x]) (ht : c.argTypes.toList = [t]) (hI : Inv P w0 S0 G st w)
    (hv : (P.underlying t = some .string ∧ ∃ s, a.eval x = .string s ∧ s.size = n) ∨ (∃ el, P.underlying t = some (.slice el) ∧ ∃ A c, a.eval x = .slice A n c)) (hk : K (.int .i64 n) id st = some r) : o.wp P a w (OpRes P w0 S0 q G st w K r o a) Q := by
  have e1 : c.args = #[x] := by apply Array.toList_inj.1; simpa using ha
  have e2 : c.argTypes = #[t] := by apply Array.toList_inj.1; simpa using ht
  refine op_pure hI ?_ hk (RepV.of (.int _ _))
  rcases hv with ⟨hu, s, hs, hn⟩ | ⟨el, hu, A, cc, hs⟩
  · simp [execOp, ho, resolve, hc, invoke, builtin, e1, e2, Builtin.len_, run_underlying hu, hs, hn, goInt]
  · simp [execOp, ho, resolve, hc, invoke, builtin, e1, e2, Builtin.len_, run_underlying hu, hs, goInt]

theorem args_two {c : Call} {m n : HV} {e : List HV} {a : Act} (h : c.args.toList.map (ev e) = [m, n]) : ∃ x y, c.args = #[x, y] ∧ ev e x = m ∧ ev e y = n := by
  cases hl : c.args.toList with
  | nil => rw [hl] at h; cases h
  | cons x l => cases l with
    | nil => rw [hl] at h; cases h
    | cons y l => cases l with
      | cons => rw [hl] at h; simp at h
      | nil =>
        rw [hl] at h
        simp only [List.map_cons, List.map_nil, List.cons.injEq, and_true] at h
        exact ⟨x, y, by apply Array.toList_inj.1; simpa using hl, h.1, h.2⟩

theorem op_max {c : Call} {x y : Operand} {k : IntKind} {m n : Int} (ho : o.op = .call c) (hc : c.callee = .builtin .max) (ha : c.args = #[x, y]) (hI : Inv P w0 S0 G st w) (hx : RepV G w (.int k m) (a.eval x)) (hy : RepV G w (.int k n) (a.eval y))
    (hk : K (.int k (max m n)) id st = some r) : o.wp P a w (OpRes P w0 S0 q G st w K r o a) Q := by
  have e1 := RepV.int_inv hx
  have e2 := RepV.int_inv hy
  refine op_pure hI ?_ hk (RepV.of (.int _ _))
  have : (if n > m then n else m) = max m n := by rw [Int.max_def]; split <;> split <;> omega
  simp [execOp, ho, resolve, hc, invoke, builtin, ha, Builtin.max_, e1, e2, Builtin.max2, this]

theorem op_min {c : Call} {x y : Operand} {k : IntKind} {m n : Int} (ho : o.op = .call c) (hc : c.callee = .builtin .min) (ha : c.args = #[x, y]) (hI : Inv P w0 S0 G st w) (hx : RepV G w (.int k m) (a.eval x)) (hy : RepV G w (.int k n) (a.eval y))
    (hk : K (.int k (min m n)) id st = some r) : o.wp P a w (OpRes P w0 S0 q G st w K r o a) Q := by
  have e1 := RepV.int_inv hx
  have e2 := RepV.int_inv hy
  refine op_pure hI ?_ hk (RepV.of (.int _ _))
  have : (if n < m then n else m) = min m n := by rw [Int.min_def]; split <;> split <;> omega
  simp [execOp, ho, resolve, hc, invoke, builtin, ha, Builtin.min_, e1, e2, Builtin.min2, this]

theorem op_strIdx {t : TypeId} {x ix : Operand} {s : ByteArray} {k : IntKind} {i : Int} (ho : o.op = .index t x ix) (hu : P.underlying t = some .string) (hI : Inv P w0 S0 G st w) (hx : RepV G w (.str s) (a.eval x)) (hy : RepV G w (.int k i) (a.eval ix)) (h0 : 0 ≤ i) (h1 : i < s.size)
    (hk : K (.int .u8 (byteAt s i.toNat)) id st = some r) : o.wp P a w (OpRes P w0 S0 q G st w K r o a) Q := by
  have e1 := RepV.str_inv hx
  have e2 := RepV.int_inv hy
  refine op_pure hI ?_ hk (RepV.of (.int _ _))
  have hlt : i.toNat < s.size := by omega
  have hget : s[i.toNat]? = some (s.data.getD i.toNat 0) := by
    cases s with | mk d =>
    have hlt : i.toNat < d.size := hlt
    rw [getElem?_pos _ _ (by exact hlt)]
    simp only [Array.getD, hlt, dif_pos]
    rfl
  simp [execOp, ho, Instr.index, e1, e2, asIntOf, run_underlying hu, h0, hget, byteAt]

theorem op_makeFunc {f : Nat} {first captured : Array Operand} {hs : List HV} (ho : o.op = .makeFunc (.func f) first captured) (hf : first.toList = []) (hI : Inv P w0 S0 G st w) (hl : hs.length = captured.toList.length)
    (hv : ∀ (i : Nat) h p, hs[i]? = some h → captured.toList[i]? = some p → RepV G w h (a.eval p)) (hk : (toCs q st hs fun vs st => br (vs.all isCell) (K (.fn f vs) id st) none) = some r) : o.wp P a w (OpRes P w0 S0 q G st w K r o a) Q := by
  obtain ⟨cs, st1, S1, hk1, hI1, g1, hcs, hq1, hl1⟩ := toCs_sound (vs := captured.toList.map fun p => a.eval p) hI (by simpa using hl)
    (fun i h v hi hvi => by
      rw [List.getElem?_map] at hvi
      cases hp : captured.toList[i]? with
      | none => rw [hp] at hvi; cases hvi
      | some p => rw [hp] at hvi; injection hvi with hvi; subst hvi; exact hv i h p hi hp) hk
  have hf : first = #[] := by apply Array.toList_inj.1; simpa using hf
  refine wp_val (w' := w) (v := .func (.func f) #[] (captured.map a.eval)) (by simp [execOp, ho, Instr.makeFunc, hf]) ?_
  refine res_after g1 hq1 (q' := q) ?_ (fun h => h)
  obtain ⟨hall, hk2⟩ := br_none hk1
  refine res_pure hI1 hk2 (RepV.of ?_)
  have := RepC.fn (S := S1) (w := w) f cs _ (hcs.cs hall)
  have e : (captured.toList.map fun p => a.eval p).toArray = captured.map a.eval := by apply Array.toList_inj.1; simp
  rwa [e] at this

theorem typed_eq {γ : Type} {t : TypeId} {x : Option HV} {K : HV → Option γ} {r : γ} (h : typed P t x K = some r) : ∃ v, x = some v ∧ K v = some r := by
  unfold typed at h
  split at h
  · obtain ⟨b, h1, h2⟩ := bndB_eq h; exact ⟨_, h1, h2⟩
  · obtain ⟨b, h1, h2⟩ := bndI_eq h; exact ⟨_, h1, h2⟩
  · obtain ⟨b, h1, h2⟩ := bndS_eq h; exact ⟨_, h1, h2⟩
  · split at h
    · obtain ⟨n, g, h1, h2⟩ := bndL_eq h; exact ⟨_, h1, h2⟩
    · cases h
  · exact bnd_eq h

theorem op_call {c : Call} {f : Operand} {g : Nat} {caps : List HV} {hs : List HV} {C : Cfg} (hCP : C.P = P) (hC : CallOk P C.call) (ho : o.op = .call c) (hc : c.callee = .value f) (hg : okFn P g = true) (hI : Inv P w0 S0 G st w) (hf : RepV G w (.fn g caps) (a.eval f))
    (hl : hs.length = c.args.toList.length) (hv : ∀ (i : Nat) h p, hs[i]? = some h → c.args.toList[i]? = some p → RepV G w h (a.eval p))
    (hk : (toCs q st hs fun vs st => typed C.P o.type (C.call g (nzs C.P (paramsT C.P g) vs ++ caps)) fun r => K r id st) = some r) : o.wp P a w (OpRes P w0 S0 q G st w K r o a) Q := by
  obtain ⟨us, hfe, hfr⟩ := RepV.fn_inv hf
  obtain ⟨cs, st1, S1, hk1, hI1, g1, hcs, hq1, hl1⟩ := toCs_sound (vs := c.args.toList.map fun p => a.eval p) hI (by simpa using hl)
    (fun i h v hi hvi => by
      rw [List.getElem?_map] at hvi
      cases hp : c.args.toList[i]? with
      | none => rw [hp] at hvi; cases hvi
      | some p => rw [hp] at hvi; injection hvi with hvi; subst hvi; exact hv i h p hi hp) hk
  obtain ⟨rv, hcall, hk2⟩ := typed_eq hk1
  have hargs : RepTs S1 w (nzs C.P (paramsT C.P g) cs ++ caps) (c.args.toList.map (fun p => a.eval p) ++ us) := (nzs_rep hcs).append (hfr.mono g1).ts
  have hCalls := hC g _ rv hcall S1 w _ hI1.slt hargs
  unfold okFn at hg
  split at hg
  rotate_left
  · cases hg
  rename_i fn hfn
  simp only [Bool.and_eq_true, Bool.not_eq_true', beq_eq_false_iff_ne, ne_eq] at hg
  obtain ⟨hb, hnm⟩ := hg
  have hbody : fn.body.isNone = false := by cases hbb : fn.body <;> simp_all
  have hrun : (execOp a.eval o).run P w = .ok (.enter g (c.args.toList.map (fun p => a.eval p) ++ us).toArray) w := by
    have e : c.args.map a.eval ++ us.toArray = (c.args.toList.map (fun p => a.eval p) ++ us).toArray := by apply Array.toList_inj.1; simp
    rw [← e]
    have key : ∀ args : Array Value, (callFunc g args).run P w = .ok (.enter g args) w := by
      intro args
      have h2 : fn.body ≠ none := by cases hbb : fn.body <;> simp_all
      simp [callFunc, hfn, hnm, h2, Sem.run]
    have hr : (resolve a.eval c o.type).run P w = .ok { target := .fn (.func g) us.toArray, args := #[] ++ c.args.map a.eval } w := by
      simp [resolve, hc, hfe, Deferred.ofValue]
    simp only [execOp, ho, Sem.run_bind, hr, Result.andThen_ok, invoke, key, Array.empty_append]
  unfold Oper.wp
  rw [hrun, Oper.upon_enter]
  refine Calls.mono hCalls ?_
  rintro e w' ⟨v, S', rfl, hbel, hs1, hs2, hs3, hrep⟩
  show OpRes _ _ _ _ _ _ _ _ _ _ _ _ _
  refine res_after g1 hq1 (q' := q) ?_ (fun h => h)
  obtain ⟨hI2, g2⟩ := hI1.grow hbel (S' := S') hs1 hs2 hs3
  exact ⟨rv, v, id, st1, _, hk2, rfl, hI2, RepR.repV (G := { G with S := S' }) hrep, fun h u k => RepV.mono (G := { G with S := S1 }) (G' := { G with S := S' }) g2 (fun _ _ h => h) (fun _ _ h => h) k, fun _ => ⟨rfl, rfl, rfl, rfl⟩, g2⟩
end
end Go.Eng
end

section
namespace Go.Eng
open Go.RowKit
set_option linter.unusedSimpArgs false
set_option linter.unusedVariables false

section
variable {β : Type} {P : Program} {w0 : World} {S0 : Nat → Nat → Prop} {q : Bool} {G : Gh} {st : List Slot} {w : World} {r : β} {o : Oper} {a : Act} {Q : Exit → Act → World → Prop}

def OpPost {β : Type} (P : Program) (w0 : World) (S0 : Nat → Nat → Prop) (q : Bool) (G : Gh) (e : List HV) (st : List Slot) (w : World) (K : HV → List HV → List Slot → Option β) (r : β) (o : Oper) (a : Act) : Act → World → Prop := fun a' w' =>
  ∃ hv v e' st' G', K hv e' st' = some r ∧ a' = a.put o.dst v ∧ Inv P w0 S0 G' st' w' ∧ RepE G' w' e' a ∧ RepV G' w' hv v ∧ (q = true → e' = e ∧ st' = st ∧ G'.R = G.R ∧ G'.T = G.T) ∧ Gro G.S w G'.S w'

theorem evs_rep {e : List HV} (hE : RepE G w e a) (l : List Operand) : ∀ (i : Nat) h p, (l.map (ev e))[i]? = some h → l[i]? = some p → RepV G w h (a.eval p) := by
  intro i h p h1 h2
  rw [List.getElem?_map, h2] at h1
  injection h1 with h1
  subst h1
  exact hE.ev p

theorem evOp_sound {C : Cfg} (hCP : C.P = P) (hC : CallOk P C.call) {e : List HV} {K : HV → List HV → List Slot → Option β} (hI : Inv P w0 S0 G st w) (hE : RepE G w e a) (hk : evOp C q o e st K = some r) :
    o.wp P a w (OpPost P w0 S0 q G e st w K r o a) Q := by
  obtain ⟨P', call⟩ := C
  simp only at hCP hC
  subst hCP
  have conv : ∀ {Q}, o.wp P' a w (OpRes P' w0 S0 q G st w (fun v tr st => K v (e.map tr) st) r o a) Q → o.wp P' a w (OpPost P' w0 S0 q G e st w K r o a) Q := by
    intro Q h
    refine Oper.wp_mono ?_ h
    rintro a' w' ⟨hv, v, tr, st', G', h1, h2, h3, h4, h5, h6, h7⟩
    refine ⟨hv, v, e.map tr, st', G', h1, h2, h3, hE.map tr h5, h4, fun hq => ?_, h7⟩
    obtain ⟨k1, k2⟩ := h6 hq
    exact ⟨by rw [k1]; simp, k2⟩
  apply conv
  generalize hK' : (fun v tr st => K v (e.map tr) st) = K'
  have hid : ∀ v st, K v e st = K' v id st := by intro v st; rw [← hK']; simp
  have hmp : ∀ v f st, K v (e.map f) st = K' v f st := by intro v f st; rw [← hK']
  unfold evOp at hk
  simp only [evK_eq, evKs_eq, List.map_map] at hk
  cases ho : o.op <;> simp only [ho] at hk <;> first | (cases hk; done) | skip
  case move x =>
    rw [hid] at hk
    exact op_pure hI (by simp [execOp, ho]) hk (hE.ev x)
  case assign x =>
    have hx := hE.ev x
    rcases br_some hk with ⟨hc, h2⟩ | ⟨_, h2⟩
    · simp only [Bool.and_eq_true, Bool.not_eq_true'] at hc
      obtain ⟨hq, hn⟩ := hc
      have hv : ev e x = .nils := by
        generalize ev e x = v at hn
        cases v <;> first | rfl | cases hn
      rw [hv] at hx
      split at h2
      · rename_i he
        rw [hid] at h2
        exact op_nil ho hq hI hx he h2
      · rw [hid] at h2
        exact op_pure hI (by simp [execOp, ho]) h2 hx
    · rw [hid] at h2
      exact op_pure hI (by simp [execOp, ho]) h2 hx
  case pick c x y =>
    split at hk
    · rename_i t ht
      have hc := hE.ev c
      rw [ht] at hc
      have hc := RepV.bool_inv hc
      rw [hid, hid] at hk
      rcases br_some hk with ⟨h1, h2⟩ | ⟨h1, h2⟩
      · subst h1; exact op_pure hI (by simp [execOp, ho, hc, asBool]) h2 (hE.ev x)
      · subst h1; exact op_pure hI (by simp [execOp, ho, hc, asBool]) h2 (hE.ev y)
    · cases hk
  case alloc t =>
    obtain ⟨hq, hk2⟩ := br_none' hk
    simp only [hid] at hk2
    exact op_alloc ho hq hI hk2
  case box t x =>
    simp only [hid] at hk
    exact op_box ho hI (hE.ev x) hk
  case build t parts =>
    split at hk
    · rename_i z fs hz hu
      obtain ⟨hall, hk2⟩ := br_none hk
      simp only [hid] at hk2
      refine op_build ho hz hu hI hall (hs := parts.toList.map (ev e ∘ fun x => x.2)) (by simp) ?_ hk2
      intro i h p h1 h2
      rw [List.getElem?_map, h2] at h1
      injection h1 with h1
      subst h1
      exact hE.ev _
    · cases hk
  case buildSlice t len parts =>
    split at hk
    · rename_i el sz z by_ he
      refine op_buildSlice ho he hI (hs := parts.toList.map (ev e ∘ fun x => x.2)) (by simp) ?_ hid hk
      intro i h p h1 h2
      rw [List.getElem?_map, h2] at h1
      injection h1 with h1
      subst h1
      exact hE.ev _
    · cases hk
  case load t x =>
    simp only [hid] at hk
    exact op_load ho hI (hE.ev x) hk
  case store t x y =>
    obtain ⟨hq, hk2⟩ := br_none' hk
    simp only [hid] at hk2
    exact op_store ho hq hI (hE.ev x) (hE.ev y) hk2
  case nilCheck x =>
    have hx := hE.ev x
    split at hk
    · rename_i cs off h; rw [hid] at hk; rw [h] at hx; exact op_nilCheck ho (.inl ⟨_, _, rfl⟩) hI hx hk
    · rename_i cs off h; rw [hid] at hk; rw [h] at hx; exact op_nilCheck ho (.inr (.inl ⟨_, _, rfl⟩)) hI hx hk
    · rename_i h; rw [hid] at hk; rw [h] at hx; exact op_nilCheck ho (.inr (.inr ⟨_, _, _, _, rfl⟩)) hI hx hk
    · cases hk
  case binOp op t x y yt =>
    simp only [hid] at hk
    exact op_bin ho hI (hE.ev x) (hE.ev y) hk
  case unOp op t x =>
    simp only [hid] at hk
    exact op_un ho hI (hE.ev x) hk
  case convert src dst x =>
    split at hk
    · rename_i d k k' n hs hd hx
      rw [hid] at hk
      exact op_conv ho hs hd hI (by rw [← hx]; exact hE.ev x) hk
    · cases hk
  case makeFunc fn first captured =>
    split at hk
    · rename_i f hf
      simp only [hid] at hk
      exact op_makeFunc ho hf hI (by simp) (evs_rep hE _) hk
    · cases hk
  case makeSlice t l c =>
    obtain ⟨hq, hk2⟩ := br_none' hk
    split at hk2
    · rename_i el sz z by_ x y he hl hc
      rw [hid] at hk2
      exact op_makeSlice ho hq he hI (by rw [← hl]; exact hE.ev l) (by rw [← hc]; exact hE.ev c) hk2
    · cases hk2
  case slice t x lo hi mx =>
    split at hk
    · simp only [hid] at hk
      refine op_slice ho hI (hE.ev x) (hlo := lo.map (ev e)) (hhi := hi.map (ev e)) ?_ ?_ ?_ ?_ hk
      · intro h hh; cases lo with
        | none => cases hh
        | some l => injection hh with hh; subst hh; exact ⟨_, rfl, hE.ev l⟩
      · intro hh; cases lo with
        | none => rfl
        | some l => cases hh
      · intro h hh; cases hi with
        | none => cases hh
        | some l => injection hh with hh; subst hh; exact ⟨_, rfl, hE.ev l⟩
      · intro hh; cases hi with
        | none => rfl
        | some l => cases hh
    · cases hk
  case fieldAddr t x i =>
    simp only [hid] at hk
    exact op_field ho hI (hE.ev x) hk
  case indexAddr t x ix =>
    split at hk
    · rename_i el sz z by_ k i he hi
      simp only [hid] at hk
      exact op_index ho he hI (hE.ev x) (by rw [← hi]; exact hE.ev ix) hk
    · cases hk
  case index t x ix =>
    split at hk
    · rename_i s k i hu hx hi
      obtain ⟨hb, hk2⟩ := br_none hk
      simp only [decide_eq_true_eq] at hb
      rw [hid] at hk2
      exact op_strIdx ho hu hI (by rw [← hx]; exact hE.ev x) (by rw [← hi]; exact hE.ev ix) hb.1 hb.2 hk2
    · cases hk
  case extract t i =>
    split at hk
    · rename_i vs ht
      split at hk
      · rename_i v hv
        rw [hid] at hk
        exact op_extract ho hI (by rw [← ht]; exact hE.ev t) hv hk
      · cases hk
    · cases hk
  case call c =>
    cases hc : c.callee with
    | invoke x n => simp only [hc] at hk; cases hk
    | value f =>
      simp only [hc] at hk
      split at hk
      · rename_i g caps hf
        obtain ⟨hg, hk2⟩ := br_none hk
        simp only [hid] at hk2
        exact op_call (C := ⟨P', call⟩) rfl hC ho hc hg hI (by rw [← hf]; exact hE.ev f) (by simp) (evs_rep hE _) hk2
      · cases hk
    | builtin b =>
      cases b <;> simp only [hc] at hk <;> first | (cases hk; done) | skip
      case append =>
        split at hk
        · rename_i s x t t' ha ht
          obtain ⟨htt, hk2⟩ := br_none hk
          have htt : t = t' := by simpa using htt
          subst htt
          unfold evAppend at hk2
          obtain ⟨hq, hk3⟩ := br_none' hk2
          split at hk3
          · rename_i el sz z by_ he
            simp only [mapK_eq, hid, hmp] at hk3
            exact op_append ho hc ha ht hq he hI (hE.ev s) (hE.ev x) hk3
          · cases hk3
        · cases hk
      case len =>
        split at hk
        · rename_i x t ha ht
          have hx := hE.ev x
          split at hk
          · rename_i s hu hv
            rw [hid] at hk
            rw [hv] at hx
            exact op_len (n := s.size) ho hc ha ht hI (.inl ⟨hu, s, RepV.str_inv hx, rfl⟩) hk
          · rename_i el sz n f hu hv
            rw [hid] at hk
            rw [hv] at hx
            obtain ⟨A, c', _, he, _⟩ := RepC.lst_inv hx
            exact op_len (n := n) ho hc ha ht hI (.inr ⟨el, hu, A, c', he⟩) hk
          · rename_i el t' sz n f hu hv
            rw [hid] at hk
            rw [hv] at hx
            obtain ⟨A, c', _, he, _⟩ := RepC.lst_inv hx.2
            exact op_len (n := n) ho hc ha ht hI (.inr ⟨el, hu, A, c', he⟩) hk
          · rename_i el r' sz lo n hu hv
            rw [hid] at hk
            rw [hv] at hx
            obtain ⟨g, A, c', _, he, _⟩ := hx
            exact op_len (n := n) ho hc ha ht hI (.inr ⟨el, hu, A, c', he⟩) hk
          · rename_i el hu hv
            rw [hid] at hk
            rw [hv] at hx
            exact op_len (n := 0) ho hc ha ht hI (.inr ⟨el, hu, none, 0, RepV.nils_inv hx⟩) hk
          · cases hk
        · cases hk
      case max =>
        split at hk
        · rename_i k m k' n hm
          split at hk
          · rename_i hkk
            subst hkk
            obtain ⟨x, y, ha, h1, h2⟩ := args_two (a := a) hm
            rw [hid] at hk
            exact op_max ho hc ha hI (by rw [← h1]; exact hE.ev x) (by rw [← h2]; exact hE.ev y) hk
          · cases hk
        · cases hk
      case min =>
        split at hk
        · rename_i k m k' n hm
          split at hk
          · rename_i hkk
            subst hkk
            obtain ⟨x, y, ha, h1, h2⟩ := args_two (a := a) hm
            rw [hid] at hk
            exact op_min ho hc ha hI (by rw [← h1]; exact hE.ev x) (by rw [← h2]; exact hE.ev y) hk
          · cases hk
        · cases hk
end
end Go.Eng
end
