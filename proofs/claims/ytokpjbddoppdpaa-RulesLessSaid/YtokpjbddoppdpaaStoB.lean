/- A second interpreter over plain values, for code that writes memory: places, lists, maps. -/
import Derived.Test.YtokpjbddoppdpaaStoA
set_option linter.unusedVariables false
set_option linter.unusedSimpArgs false
set_option linter.unusedSectionVars false
section
namespace Go.Eng
open Go.RowKit
set_option linter.unusedVariables false
set_option linter.unusedSimpArgs false

section
variable {β : Type} {P : Program} {G : Gx} {st : List Ob} {w : World} {K : KO β} {r : β} {o : Oper} {a : Act} {Q : Exit → Act → World → Prop} {e : List HV}

/-- What the first interpreter's law of an operation on closed values says here. -/
theorem OpX.of_res (hI : St P G st w) {a' : Act} {w' : World} (h : OpRes P w G.S true (g0 G) [] w (fun v _ _ => K v [] []) r o a a' w') : OpX P G st w K r o a a' w' := by
  obtain ⟨hv, v, tr, st', G', h1, h2, h3, h4, h5, h6, h7⟩ := h
  obtain ⟨_, _, hR, hT⟩ := h6 rfl
  obtain ⟨k1, k2, k3⟩ := hI.grow h3.below (S' := G'.S) h3.s0 h3.snew h3.slt
  exact ⟨hv, v, [], [], _, h1, h2, k1, k2, k3, RepX.of_v (G' := G') rfl (fun r g h => by rw [hR] at h; exact h) (fun r u h => by rw [hT] at h; exact h) h4⟩

theorem opx_nilp {op : BinOp} {t yt : TypeId} {x y : Operand} {hx : HV} (ho : o.op = .binOp op t x y yt) (hI : St P G st w) (hvx : RepX G w hx (a.eval x)) (hvy : RepX G w .nilp (a.eval y)) (hp : ∃ g off, a.eval x = .pointer (some ⟨g, off, none⟩))
    (hk : evBin P op t (.ptr [] 0) .nilp (fun v => K v [] []) = some r) : o.wp P a w (OpX P G st w K r o a) Q := by
  obtain ⟨g, off, he⟩ := hp
  refine Oper.wp_mono ?_ (op_bin (q := true) (K := fun v _ _ => K v [] []) ho (Inv.start P w G.S hI.slt) (hx := .ptr [] 0) (hy := .nilp) ?_ ?_ hk)
  · intro a' w' h
    exact OpX.of_res hI h
  · rw [he]
    exact RepV.of (.ptr [] 0 ⟨g, off, none⟩ [] .nil (fun j u hj => by simp at hj))
  · rw [hvy.nilp_inv]; exact RepV.of .nilp

theorem opx_field {t i : Nat} {x : Operand} {r' off : Nat} {sz j : Nat} {h : HV} (hh : h = .var r' off ∨ h = .elt r' sz j off) (ho : o.op = .fieldAddr t x i) (hI : St P G st w) (hv : RepX G w h (a.eval x)) (hk : evField P t i h (fun v => K v [] []) = some r) : o.wp P a w (OpX P G st w K r o a) Q := by
  unfold evField at hk
  split at hk
  · rename_i fs hu
    split at hk
    · rename_i f hf
      split at hk
      · rename_i n hn
        obtain ⟨hn0, hk2⟩ := br_none' hk
        have hn0 : n ≠ 0 := by simpa using hn0
        have hrun : ∀ ad : Addr, a.eval x = .pointer (some ad) → (execOp a.eval o).run P w = .ok (.value (.pointer (some (ad.add f.offset)))) w := by
          intro ad he
          unfold szT at hn
          split at hn
          · rename_i ii hi
            injection hn with hn
            simp [execOp, ho, Instr.fieldAt, he, run_underlying hu, hf, Instr.sureAddr, fieldPlace, sizeOf, typeInfo, hi, hn, hn0]
          · cases hn
        rcases hh with rfl | rfl
        · obtain ⟨b, hR, he⟩ := hv.var_inv
          refine opx_pure hI (hrun _ he) hk2 ?_
          rw [addr_add]
          exact .var _ _ _ hR
        · obtain ⟨b, m, hR, hL, hj, he⟩ := hv.elt_inv
          refine opx_pure hI (hrun _ he) hk2 ?_
          rw [addr_add, Nat.add_assoc]
          exact .elt _ _ _ _ _ _ hR hL hj
      · cases hk
    · cases hk
  · cases hk

theorem run_index {t : Nat} {x ix : Operand} {k : IntKind} {i : Int} {el sz : Nat} (ho : o.op = .indexAddr t x ix) (hu : P.underlying t = some (.slice el)) (hi : (P.info? el).map (·.size) = some sz) (hix : a.eval ix = .int k i) {ad : Addr} {n c : Nat} (hx : a.eval x = .slice (some ad) n c) (h0 : 0 ≤ i) (h1 : i < n) :
    (execOp a.eval o).run P w = .ok (.value (.pointer (some (ad.add (i.toNat * sz))))) w := by
  cases hii : P.info? el with
  | none => rw [hii] at hi; cases hi
  | some ii =>
    rw [hii] at hi
    simp only [Option.map_some, Option.some.injEq] at hi
    simp [execOp, ho, Instr.indexAt, hx, hix, asIntOf, run_underlying hu, h0, h1, sizeOf, typeInfo, hii, hi]
theorem opx_index_arr {t : Nat} {x ix : Operand} {k : IntKind} {i : Int} {el sz r' lo n : Nat} (ho : o.op = .indexAddr t x ix) (hu : P.underlying t = some (.slice el)) (hi : (P.info? el).map (·.size) = some sz) (hI : St P G st w) (hv : RepX G w (.arr r' sz lo n) (a.eval x)) (hvi : RepX G w (.int k i) (a.eval ix))
    (hk : br (decide (0 ≤ i ∧ i < n)) (K (.elt r' sz (lo + i.toNat) 0) [] []) none = some r) : o.wp P a w (OpX P G st w K r o a) Q := by
  obtain ⟨hb, hk⟩ := br_none hk
  simp only [decide_eq_true_eq] at hb
  obtain ⟨A, c, m, hx, hL, hlo, hc, hA⟩ := hv.arr_inv
  obtain ⟨g, hR, rfl⟩ := hA (by omega)
  refine opx_pure hI (run_index ho hu hi hvi.int_inv hx hb.1 hb.2) hk ?_
  rw [addr_add]
  have := RepX.elt (G := G) (w := w) r' sz (lo + i.toNat) 0 g m hR hL (by omega)
  rwa [Nat.add_mul, Nat.add_zero] at this
theorem opx_index_ow {t : Nat} {x ix : Operand} {k : IntKind} {i : Int} {el sz r' n e' : Nat} {m : Bool} {f : Nat → List HV} {rd : List Nat} (ho : o.op = .indexAddr t x ix) (hu : P.underlying t = some (.slice el)) (hi : (P.info? el).map (·.size) = some sz) (hI : St P G st w) (hv : RepX G w (.ow r') (a.eval x)) (hvi : RepX G w (.int k i) (a.eval ix)) (hs : st[r']? = some (.row m (some e') sz n f))
    (hk : br (decide (0 ≤ i ∧ i < n)) (K (.elt r' sz i.toNat 0) [] rd) none = some r) : o.wp P a w (OpX P G st w K r o a) Q := by
  obtain ⟨hb, hk⟩ := br_none hk
  simp only [decide_eq_true_eq] at hb
  obtain ⟨hT, A, n', c, hx⟩ := hv.ow_inv
  obtain ⟨A', c', hx', hc, hA⟩ := ow_slice hI hs rfl (hx ▸ hT)
  cases hx'
  obtain ⟨g, hR, rfl⟩ := hA (by omega)
  refine opx_pure hI (run_index ho hu hi hvi.int_inv hx hb.1 hb.2) hk ?_
  rw [addr_add, Nat.zero_add]
  have := RepX.elt (G := G) (w := w) r' sz i.toNat 0 g n hR (hI.obj _ _ hs).1 (by omega)
  rwa [Nat.add_zero] at this

theorem run_sliceX {isSlice : Bool} {n cap : Nat} {lo hi : Option HV} {vlo vhi : Option Value} {K : Nat → Nat → Option β} (hlo : ∀ h, lo = some h → ∃ v, vlo = some v ∧ RepX G w h v) (hlo' : lo = none → vlo = none) (hhi : ∀ h, hi = some h → ∃ v, vhi = some v ∧ RepX G w h v) (hhi' : hi = none → vhi = none) (hn : n ≤ cap)
    (hk : sliceN n lo hi K = some r) : ∃ l h, K l h = some r ∧ l ≤ h ∧ h ≤ n ∧ (Instr.sliceBounds isSlice n cap vlo vhi none).run P w = .ok (l, h, cap) w := by
  unfold sliceN at hk
  split at hk
  · rename_i hh ll hhe hle
    obtain ⟨h1, hk2⟩ := br_none hk
    obtain ⟨h2, hk3⟩ := br_none hk2
    simp only [decide_eq_true_eq] at h1 h2
    refine ⟨_, _, hk3, by omega, by omega, ?_⟩
    rcases hi with _ | hi'
    · have ev1 := hhi' rfl
      injection hhe with hhe
      subst hhe
      rcases lo with _ | lo'
      · have ev2 := hlo' rfl
        injection hle with hle
        subst hle
        subst ev1 ev2
        simp [Instr.sliceBounds]
      · obtain ⟨v, hv, hr⟩ := hlo _ rfl
        subst ev1 hv
        cases lo' <;> try (cases hle; done)
        rename_i kk nn
        cases kk <;> try (cases hle; done)
        simp only [Option.some.injEq] at hle
        subst hle
        rw [RepX.int_inv hr]
        simp only [Instr.sliceBounds, Instr.sliceBound, asIntOf, Sem.run_bind, Sem.run_pure, Result.andThen_ok, Int.toNat_natCast, Sem.run_ite]
        rw [if_pos (by omega)]
        simp
    · obtain ⟨v, hv, hr⟩ := hhi _ rfl
      subst hv
      cases hi' <;> try (cases hhe; done)
      rename_i kk nn
      cases kk <;> try (cases hhe; done)
      simp only [Option.some.injEq] at hhe
      subst hhe
      rw [RepX.int_inv hr]
      rcases lo with _ | lo'
      · have ev2 := hlo' rfl
        injection hle with hle
        subst hle
        subst ev2
        simp only [Instr.sliceBounds, Instr.sliceBound, asIntOf, Sem.run_bind, Sem.run_pure, Result.andThen_ok, Int.toNat_natCast, Sem.run_ite]
        rw [if_pos (by omega)]
        simp
      · obtain ⟨v, hv, hr2⟩ := hlo _ rfl
        subst hv
        cases lo' <;> try (cases hle; done)
        rename_i kk2 nn2
        cases kk2 <;> try (cases hle; done)
        simp only [Option.some.injEq] at hle
        subst hle
        rw [RepX.int_inv hr2]
        simp only [Instr.sliceBounds, Instr.sliceBound, asIntOf, Sem.run_bind, Sem.run_pure, Result.andThen_ok, Int.toNat_natCast, Sem.run_ite]
        rw [if_pos (by omega)]
        simp only [Sem.run_pure, Result.andThen_ok]
        rw [if_pos (by omega)]
        simp
  · cases hk
theorem opt_rep (hE : RepE2 G w e a) (x : Option Operand) : (∀ h, x.map (ev e) = some h → ∃ v, x.map a.eval = some v ∧ RepX G w h v) ∧ (x.map (ev e) = none → x.map a.eval = none) := by
  cases x with
  | none => exact ⟨(fun h hh => by cases hh), fun _ => rfl⟩
  | some x => exact ⟨(fun h hh => by injection hh with hh; subst hh; exact ⟨_, rfl, hE.ev x⟩), (fun hh => by cases hh)⟩

theorem run_slice {t : TypeId} {x : Operand} {lo hi mx : Option Operand} {el sz n c l h m : Nat} {A : Option Addr} (ho : o.op = .slice t x lo hi mx) (hu : P.underlying t = some (.slice el)) (hi' : (P.info? el).map (·.size) = some sz) (hx : a.eval x = .slice A n c) (hrun : (Instr.sliceBounds true n c (lo.map a.eval) (hi.map a.eval) (mx.map a.eval)).run P w = .ok (l, h, m) w) :
    (execOp a.eval o).run P w = .ok (.value (.slice (if m = l then A else A.map (·.add (l * sz))) (h - l) (m - l))) w := by
  cases hii : P.info? el with
  | none => rw [hii] at hi'; cases hi'
  | some ii =>
    rw [hii] at hi'
    simp only [Option.map_some, Option.some.injEq] at hi'
    simp only [execOp, ho, Instr.sliceAt, Sem.run_bind, run_underlying hu, Result.andThen_ok, Instr.slice, hx, hrun, sizeOf, typeInfo, run_program, hii, Sem.run_pure, hi']
theorem opx_slice_arr {t : TypeId} {x : Operand} {lo hi : Option Operand} {el sz r' b n : Nat} (ho : o.op = .slice t x lo hi none) (hu : P.underlying t = some (.slice el)) (hi' : (P.info? el).map (·.size) = some sz) (hI : St P G st w) (hE : RepE2 G w e a) (hv : RepX G w (.arr r' sz b n) (a.eval x))
    (hk : sliceN n (lo.map (ev e)) (hi.map (ev e)) (fun l h => K (.arr r' sz (b + l) (h - l)) [] []) = some r) : o.wp P a w (OpX P G st w K r o a) Q := by
  obtain ⟨A, c, m, hx, hL, hlo, hc, hA⟩ := hv.arr_inv
  obtain ⟨l, h, hK, hlh, hhn, hrun⟩ := run_sliceX (P := P) (isSlice := true) (opt_rep hE lo).1 (opt_rep hE lo).2 (opt_rep hE hi).1 (opt_rep hE hi).2 hc hk
  refine opx_pure hI (run_slice ho hu hi' hx hrun) hK (.arr _ _ _ _ _ _ m hL (by omega) (by omega) (fun h0 => ?_))
  obtain ⟨g, hR, rfl⟩ := hA (by omega)
  refine ⟨g, hR, ?_⟩
  rw [if_neg (by omega), Nat.add_mul]
  simp only [Option.map_some, addr_add]
theorem opx_slice_ow {t : TypeId} {x : Operand} {lo hi : Option Operand} {el sz r' n e' : Nat} {m : Bool} {f : Nat → List HV} {rd : List Nat} (ho : o.op = .slice t x lo hi none) (hu : P.underlying t = some (.slice el)) (hi' : (P.info? el).map (·.size) = some sz) (hI : St P G st w) (hE : RepE2 G w e a) (hv : RepX G w (.ow r') (a.eval x)) (hs : st[r']? = some (.row m (some e') sz n f))
    (hk : sliceN n (lo.map (ev e)) (hi.map (ev e)) (fun l h => K (.arr r' sz l (h - l)) [] rd) = some r) : o.wp P a w (OpX P G st w K r o a) Q := by
  obtain ⟨hT, A, n', c, hx⟩ := hv.ow_inv
  obtain ⟨A', c', hx', hc, hA⟩ := ow_slice hI hs rfl (hx ▸ hT)
  cases hx'
  obtain ⟨l, h, hK, hlh, hhn, hrun⟩ := run_sliceX (P := P) (isSlice := true) (opt_rep hE lo).1 (opt_rep hE lo).2 (opt_rep hE hi).1 (opt_rep hE hi).2 hc hk
  refine opx_pure hI (run_slice ho hu hi' hx hrun) hK (.arr _ _ _ _ _ _ n (hI.obj _ _ hs).1 (by omega) (by omega) (fun h0 => ?_))
  obtain ⟨g, hR, rfl⟩ := hA (by omega)
  refine ⟨g, hR, ?_⟩
  rw [if_neg (by omega)]
  simp only [Option.map_some, addr_add, Nat.zero_add]
theorem opx_slice_nl {t : TypeId} {x : Operand} {lo hi : Option Operand} {el sz : Nat} {z : List HV} {sz' : Nat} (ho : o.op = .slice t x lo hi none) (hu : P.underlying t = some (.slice el)) (hi' : (P.info? el).map (·.size) = some sz) (hI : St P G st w) (hE : RepE2 G w e a) (hv : RepX G w (.nl sz' z) (a.eval x))
    (hk : sliceN 0 (lo.map (ev e)) (hi.map (ev e)) (fun _ _ => K (.nl sz' z) [] []) = some r) : o.wp P a w (OpX P G st w K r o a) Q := by
  have hx := hv.nl_inv
  obtain ⟨l, h, hK, hlh, hhn, hrun⟩ := run_sliceX (P := P) (isSlice := true) (cap := 0) (opt_rep hE lo).1 (opt_rep hE lo).2 (opt_rep hE hi).1 (opt_rep hE hi).2 (Nat.le_refl _) hk
  have hl : l = 0 := by omega
  have hh : h = 0 := by omega
  subst hl hh
  exact opx_pure hI (run_slice ho hu hi' hx hrun) hK (.nl _ _)
/-- s[:0:0]. -/
theorem opx_slice_emp {t : TypeId} {x m : Operand} {lo hi : Option Operand} {el sz by_ id : Nat} {z : List HV} {A : Option Addr} {n c : Nat} (ho : o.op = .slice t x lo hi (some m)) (he : elemT P t = some (el, sz, z, by_)) (hI : St P G st w) (hf : Fresh st id) (hx : a.eval x = .slice A n c) (hlo : lo = none) (hhi : hi.map a.eval = some (.int .i64 0)) (hm : a.eval m = .int .i64 0)
    (hk : K (.ow id) [(id, .row true (some el) sz 0 (fun _ => z))] [] = some r) : o.wp P a w (OpX P G st w K r o a) Q := by
  obtain ⟨hu, hi'⟩ := elemT_info he
  have hrun : (Instr.sliceBounds true n c (lo.map a.eval) (hi.map a.eval) ((some m).map a.eval)).run P w = .ok (0, 0, 0) w := by
    subst hlo
    rw [hhi]
    simp [Instr.sliceBounds, Instr.sliceBound, asIntOf, hm]
  have key := hI.emptyRow hf hi' A z
  refine wp_val (w' := w) (run_slice ho hu hi' hx hrun) ?_
  exact ⟨_, _, _, [], _, hk, rfl, key.1, key.2.1, key.2.2, .ow _ _ _ _ (.inr ⟨rfl, by simp⟩)⟩

theorem opx_len {c : Call} {x : Operand} {A : Option Addr} {n k : Nat} {rd : List Nat} (ho : o.op = .call c) (hc : c.callee = .builtin .len) (ha : c.args.toList = [x]) (hI : St P G st w) (hx : a.eval x = .slice A n k) (hk : K (.int .i64 n) [] rd = some r) (ht : ∃ t el, c.argTypes.toList = [t] ∧ P.underlying t = some (.slice el)) :
    o.wp P a w (OpX P G st w K r o a) Q := by
  obtain ⟨t, el, ht, hu⟩ := ht
  have e1 : c.args = #[x] := by apply Array.toList_inj.1; simpa using ha
  have e2 : c.argTypes = #[t] := by apply Array.toList_inj.1; simpa using ht
  exact opx_pure hI (v := .int .i64 n) (by simp [execOp, ho, resolve, hc, invoke, builtin, e1, e2, Builtin.len_, run_underlying hu, hx]; rfl) hk (.cl _ _ (.int _ _))
end
end Go.Eng
end

section
namespace Go.Eng
open Go.RowKit
set_option linter.unusedVariables false
set_option linter.unusedSimpArgs false

section
variable {β : Type} {P : Program} {G : Gx} {st : List Ob} {w : World} {K : KO β} {r : β} {o : Oper} {a : Act} {Q : Exit → Act → World → Prop} {e : List HV}

/-! ### maps -/
theorem opx_makeMap {t k el id : Nat} (ho : o.op = .makeMap t none) (hk' : P.underlying k = some .string) (hel : P.underlying el = some (.int .i64)) (hI : St P G st w) (hf : Fresh st id) (hk : K (.mp id) [(id, .map k el (fun _ => 0) 0)] [] = some r) : o.wp P a w (OpX P G st w K r o a) Q := by
  have key := hI.alloc (ob := .map #[] 0) (o' := .map k el (fun _ => 0) 0) (v := none) (l := none) hf (fun m => ⟨w.heap.size, .inr ⟨rfl, rfl⟩, ⟨hk', hel, _, World.ownsMap_made w P k _, fun s => by simp [DataW.atKey]⟩, fun o hs => Nat.lt_irrefl _ (hI.slt _ _ hs)⟩) rfl
  refine wp_val (w' := w.alloc (.map #[] 0)) (v := .map (some w.heap.size)) (by simp [execOp, ho, run_makeMap]) ?_
  exact ⟨_, _, _, [], _, hk, rfl, key.1, key.2.1, key.2.2, .mp _ _ (.inr ⟨rfl, rfl⟩)⟩
theorem keyOf_str {k : TypeId} (hk : P.underlying k = some .string) {s : ByteArray} (hs : s.size ≤ 140737488355328) : keyOf P k (.string s) = some (.string s.data.toList) := by
  have : s.size ≤ maxLen := by simp only [maxLen]; omega
  unfold keyOf
  rw [hk]
  simp [mapKey, hk, this]
theorem zeroI_run {t : TypeId} (h : zeroI P t = true) : (zeroValue t).run P w = .ok (.int .i64 0) w := by
  unfold zeroI at h
  split at h
  · rename_i i hi
    split at h
    · rename_i n hz
      simp only [decide_eq_true_eq] at h
      subst h
      simp [zeroValue, typeInfo, hi, hz]
    · cases h
  · cases h
theorem opx_lookup {t k el r' cnt : Nat} {x ix : Operand} {s : ByteArray} {g : ByteArray → Int} {rd : List Nat} (ho : o.op = .lookup t x ix false) (hu : P.underlying t = some (.map k el)) (hz : zeroI P el = true) (hI : St P G st w) (hx : RepX G w (.mp r') (a.eval x)) (hix : RepX G w (.str s) (a.eval ix)) (hs : st[r']? = some (.map k el g cnt)) (hsz : s.size ≤ 140737488355328)
    (hk : K (.int .i64 (g s)) [] rd = some r) : o.wp P a w (OpX P G st w K r o a) Q := by
  obtain ⟨b, hR, he⟩ := hx.mp_inv
  obtain ⟨b', hR', ⟨h1, h2, D, hD, hg⟩, _⟩ := hI.obj _ _ hs
  obtain rfl := hI.rfun _ _ _ hR hR'
  obtain ⟨c, hrun, hat, _⟩ := hD.lookup_int (Maps.string_keyed h1) hu h2 (zeroI_run hz) (keyOf_str h1 hsz)
  rw [hg s] at hat
  injection hat with hat
  injection hat with _ hat
  subst hat
  exact opx_pure hI (v := .int .i64 (g s)) (by simp [execOp, ho, he, hix.str_inv, hrun]) hk (.cl _ _ (.int _ _))
theorem opx_mapUpdate {t k el r' cnt : Nat} {x ix y : Operand} {s : ByteArray} {n : Int} {g : ByteArray → Int} {rd : List Nat} (ho : o.op = .mapUpdate t x ix y) (hu : P.underlying t = some (.map k el)) (hI : St P G st w) (hx : RepX G w (.mp r') (a.eval x)) (hix : RepX G w (.str s) (a.eval ix)) (hy : RepX G w (.int .i64 n) (a.eval y)) (hs : st[r']? = some (.map k el g cnt))
    (hc : cnt < 140737488355328 ∧ s.size ≤ 140737488355328 ∧ -9223372036854775808 ≤ n ∧ n ≤ 9223372036854775807)
    (hk : K .undef [(r', .map k el (fun s' => cond (decide (s' = s)) n (g s')) (cnt + 1))] rd = some r) : o.wp P a w (OpX P G st w K r o a) Q := by
  obtain ⟨b, hR, he⟩ := hx.mp_inv
  obtain ⟨b', hR', ⟨h1, h2, D, hD, hg⟩, hS⟩ := hI.obj _ _ hs
  obtain rfl := hI.rfun _ _ _ hR hR'
  have hwf : (Lit.int .i64 n).wf = true := by simp [Lit.wf, IntKind.min, IntKind.max, IntKind.bits, IntKind.signed]; omega
  obtain ⟨w', hrun, hD', hgr⟩ := hD.update (Maps.string_keyed h1) hu (by simp only [maxLen]; omega) (keyOf_str h1 hc.2.1) (plainElem_int h2 hwf)
  have key := hI.write (o' := .map k el (fun s' => cond (decide (s' = s)) n (g s')) (cnt + 1)) (w' := w') hs rfl hR hS hgr.os hgr.tape hgr.output hgr.size (fun k hk hne => hgr.block k hk (fun e => hne (by injection e)))
    (fun m => ⟨b, hR, ⟨h1, h2, _, hD', fun s' => ?_⟩, hS⟩)
  · unfold Oper.wp
    rw [show (execOp a.eval o).run P w = .ok .skip w' from by simp [execOp, ho, he, hix.str_inv, hy.int_inv, hrun]]
    exact ⟨.undef, Go.undef, _, rd, G, hk, rfl, key.1, key.2.1, key.2.2, .undef _⟩
  · by_cases hss : s' = s
    · subst hss
      rw [Maps.atKey_put_same hD.isMap (show WideAt.IsKeyLit (.string s'.data.toList) from trivial)]
      simp
    · rw [Maps.atKey_put_other (fun e => hss (by injection e with e; exact ByteArray.ext (Array.toList_inj.1 e))), hg s']
      simp [hss]

/-! ### lists that grow -/
/-- What stands in memory as a list. -/
structure Src (G : Gx) (w : World) (sz m : Nat) (g : Nat → List HV) (A : Option Addr) (cells : Nat → List Value) : Prop where
  rep : ∀ i, i < m → RepCs G.S w (g i) (cells i)
  len : ∀ i, i < m → (cells i).length = sz
  at_ : ∀ i, i < m → ∀ j u, (cells i)[j]? = some u → ∃ ad, A = some ad ∧ w.cell? (ad.add (i * sz + j)) = some u
theorem Src.zero {sz : Nat} {g : Nat → List HV} {A : Option Addr} {cells : Nat → List Value} : Src G w sz 0 g A cells := ⟨fun i hi => by omega, fun i hi => by omega, fun i hi => by omega⟩
theorem Els.src {m : Bool} {sz n b lo k : Nat} {f : Nat → List HV} {cells : Array Value} {t : TypeId} (h : Els G w b m sz n f cells) (hh : w.heap[b]? = some (.cells cells t (0, 0))) (hle : n * sz ≤ cells.size) (hlo : lo + k ≤ n) :
    Src G w sz k (fun i => f (lo + i)) (some ⟨b, lo * sz, none⟩) (fun i => (cells.toList.drop ((lo + i) * sz)).take sz) := by
  have hsub : ∀ i, i < n → (i + 1) * sz ≤ n * sz := fun i hi => Nat.mul_le_mul_right _ hi
  refine ⟨fun i hi => h.1 _ (by omega), fun i hi => ?_, fun i hi j u hj => ⟨_, rfl, ?_⟩⟩
  · have := hsub (lo + i) (by omega)
    rw [Nat.add_mul, Nat.one_mul] at this
    simp; omega
  · rw [addr_add, cell_at_block hh]
    rw [List.getElem?_take] at hj
    split at hj
    · rw [List.getElem?_drop, Array.getElem?_toList] at hj
      rw [← hj, Nat.add_mul]; congr 1; omega
    · cases hj
theorem srcK_inv {x : HV} {v : Value} {K : Nat → Nat → (Nat → List HV) → List Nat → Option β} (hI : St P G st w) (hv : RepX G w x v) (hk : srcK st x K = some r) :
    ∃ sz m g rd A c cells, K sz m g rd = some r ∧ v = .slice A m c ∧ m ≤ c ∧ Src G w sz m g A cells := by
  unfold srcK at hk
  split at hk
  · rename_i sz n f
    obtain ⟨A, c, cells, h1, h2, h3, h4, h5⟩ := RepC.lst_inv hv.lst_inv
    exact ⟨sz, n, f, [], A, c, cells, hk, h1, h5, h2, h3, fun i hi j u hj => let ⟨ad, a1, a2, _⟩ := h4 i hi j u hj; ⟨ad, a1, a2⟩⟩
  · exact ⟨0, 0, _, [], none, 0, fun _ => [], hk, hv.nils_inv, Nat.le_refl _, Src.zero⟩
  · exact ⟨_, 0, _, [], none, 0, fun _ => [], hk, hv.nl_inv, Nat.le_refl _, Src.zero⟩
  · rename_i r'
    split at hk
    · rename_i m own sz n f hs
      obtain ⟨hT, A, n', c, hx⟩ := hv.ow_inv
      obtain ⟨A', c', hx', hc, hA⟩ := ow_slice hI hs rfl (hx ▸ hT)
      cases hx'
      rcases Nat.eq_zero_or_pos n with h0 | h0
      · subst h0
        exact ⟨sz, 0, f, [r'], A, c, fun _ => [], hk, hx, hc, Src.zero⟩
      · obtain ⟨g, hR, rfl⟩ := hA h0
        obtain ⟨g', t, cells, hR', hh, hle, hels⟩ := (hI.obj _ _ hs).elem h0
        obtain rfl := hI.rfun _ _ _ hR hR'
        have := hels.src hh hle (lo := 0) (k := n) (by omega)
        simp only [Nat.zero_add, Nat.zero_mul] at this
        exact ⟨sz, n, f, [r'], _, c, _, hk, hx, hc, this⟩
    · cases hk
  · rename_i r' sz lo n
    split at hk
    · rename_i m own sz' n' f hs
      obtain ⟨A, c, n2, hx, hL, hlo, hc, hA⟩ := hv.arr_inv
      obtain ⟨rfl, rfl⟩ := hI.lfun _ _ _ _ _ hL (hI.obj _ _ hs).1
      rcases Nat.eq_zero_or_pos n with h0 | h0
      · subst h0
        exact ⟨sz, 0, _, [r'], A, c, fun _ => [], hk, hx, hc, Src.zero⟩
      · obtain ⟨g, hR, rfl⟩ := hA h0
        obtain ⟨g', t, cells, hR', hh, hle, hels⟩ := (hI.obj _ _ hs).elem (i := 0) (by omega)
        obtain rfl := hI.rfun _ _ _ hR hR'
        exact ⟨sz, n, _, [r'], _, c, _, hk, hx, hc, hels.src hh hle hlo⟩
    · cases hk
  · cases hk

theorem Src.flat_at {sz m : Nat} {g : Nat → List HV} {A : Option Addr} {cells : Nat → List Value} (h : Src G w sz m g A cells) (hs : 0 < sz) : (flat m cells).length = m * sz ∧ (0 < m → A ≠ none) ∧ (∀ ad, A = some ad → ∀ j u, (flat m cells)[j]? = some u → w.cell? (ad.add j) = some u) ∧ ∀ u ∈ flat m cells, u.oneCell' = true := by
  have hl := flat_length h.len
  refine ⟨hl, fun hm e => ?_, fun ad hA j u hj => ?_, fun u hu => ?_⟩
  · have hlen := h.len 0 hm
    obtain ⟨ad, hA, _⟩ := h.at_ 0 hm 0 _ (List.getElem?_eq_getElem (by omega))
    rw [e] at hA; cases hA
  · have hjl : j < m * sz := by have := (List.getElem?_eq_some_iff.1 hj).1; omega
    have hq : j / sz < m := by rw [Nat.div_lt_iff_lt_mul hs]; exact hjl
    have hr := Nat.mod_lt j hs
    have hpe : j / sz * sz + j % sz = j := by rw [Nat.mul_comm]; exact Nat.div_add_mod j sz
    have hfl := flat_get h.len hq hr
    rw [hpe, hj] at hfl
    obtain ⟨ad', hA', hcell⟩ := h.at_ _ hq _ _ hfl.symm
    rw [hA] at hA'
    injection hA' with hA'
    subst hA'
    rwa [hpe] at hcell
  · obtain ⟨i', hi', hu'⟩ := flat_mem hu; exact (h.rep i' hi').one u hu'

theorem take_drop_take {α : Type} (l : List α) (i sz n : Nat) (h : i < n) : (l.drop (i * sz)).take sz = ((l.take (n * sz)).drop (i * sz)).take sz := by
  have hsub : (i + 1) * sz ≤ n * sz := Nat.mul_le_mul_right _ h
  rw [Nat.add_mul, Nat.one_mul] at hsub
  apply List.ext_getElem?
  intro j
  simp only [List.getElem?_take, List.getElem?_drop]
  by_cases hj : j < sz
  · rw [if_pos hj, if_pos hj, if_pos (by omega)]
  · rw [if_neg hj, if_neg hj]
theorem flat_part {m sz : Nat} {c : Nat → List Value} (h : ∀ i, i < m → (c i).length = sz) {i : Nat} (hi : i < m) : ((flat m c).drop (i * sz)).take sz = c i := by
  apply List.ext_getElem?
  intro j
  rw [List.getElem?_take]
  split
  · rename_i hj
    rw [List.getElem?_drop, flat_get h hi hj]
  · rename_i hj
    rw [List.getElem?_eq_none (by rw [h i hi]; omega)]

theorem grown_size {cur : Array Value} {xs news : List Value} {z : Value} {sz k m cap : Nat} (hzs : z.cells.size = sz) (hx : xs.length = k * sz) (hn : news.length = m * sz) (hc : k + m ≤ cap) : (xs.toArray ++ news.toArray ++ Builtin.zeroCells z.cells (cap - (k + m))).size = cap * sz := by
  simp only [Array.size_append, List.size_toArray, size_zeroCells, hzs, hx, hn, ← Nat.add_mul]
  congr 1
  omega

/-- A list grows: what comes of it. -/
theorem run_appendX {ts el sz by_ id n m c : Nat} {z : List HV} {f g : Nat → List HV} {mm : Bool} {v : Value} {A : Option Addr} {cells : Nat → List Value} (he : elemT P ts = some (el, sz, z, by_)) (hI : St P G st w) (hrow : RowAt P G w id mm (some el) sz n f) (hT : G.T id v) (hsrc : Src G w sz m g A cells) (hb : (n + m) * by_ ≤ 140737488355328) (ty : TypeId) :
    ∃ v' w', (Builtin.append_ #[ts, ts] ty #[v, .slice A m c]).run P w = .ok v' w' ∧
      ((n + m = 0 ∧ (∃ A', v' = .slice A' 0 0) ∧ w.grownBy w' none) ∨
       ∃ g' cap cur, v' = .slice (some ⟨g', 0, none⟩) (n + m) cap ∧ w'.heap[g']? = some (.cells cur el (0, 0)) ∧ n + m ≤ cap ∧ cap ≤ maxLen ∧ cur.size = cap * sz ∧
         (∀ i, i < n + m → RepCs G.S w (appF n f g i) ((cur.toList.drop (i * sz)).take sz)) ∧ ((G.R id g' ∧ (mm = true → ∀ o, ¬ G.S g' o) ∧ w.grownBy w' (some g')) ∨ (g' = w.heap.size ∧ w.grownBy w' none))) := by
  obtain ⟨i, vz, hu, hi, hz, hzc, rfl, rfl, hzl, hs0, hb0⟩ := elemT_inv he
  have hzs := elemT_zero hzc hzl
  obtain ⟨hfl, hAne, hcellsY, hone⟩ := hsrc.flat_at hs0
  obtain ⟨_, v0, hT0, hv⟩ := hrow
  obtain rfl := hI.tfun _ _ _ hT hT0
  have h63 : n + m ≤ maxLen := by
    have := Nat.le_mul_of_pos_right (n + m) hb0
    simp only [maxLen]; omega
  -- from an owned row
  have owned : ∀ (xs : List Value), w.ownsRow 0 el i.size v n xs → (∀ j, j < n → RepCs G.S w (f j) ((xs.drop (j * i.size)).take i.size)) → (∀ b, v.ownBlock = some b → G.R id b ∧ (mm = true → ∀ o, ¬ G.S b o)) → ∃ v' w', (Builtin.append_ #[ts, ts] ty #[v, .slice A m c]).run P w = .ok v' w' ∧
      ((n + m = 0 ∧ (∃ A', v' = .slice A' 0 0) ∧ w.grownBy w' none) ∨
       ∃ g' cap cur, v' = .slice (some ⟨g', 0, none⟩) (n + m) cap ∧ w'.heap[g']? = some (.cells cur el (0, 0)) ∧ n + m ≤ cap ∧ cap ≤ maxLen ∧ cur.size = cap * i.size ∧
         (∀ j, j < n + m → RepCs G.S w (appF n f g j) ((cur.toList.drop (j * i.size)).take i.size)) ∧ ((G.R id g' ∧ (mm = true → ∀ o, ¬ G.S g' o) ∧ w.grownBy w' (some g')) ∨ (g' = w.heap.size ∧ w.grownBy w' none))) := by
    intro xs hown hxs hblk
    obtain ⟨v', w', hrun, hown', hcase⟩ := run_append_eng (P := P) (w := w) 0 ts ty el i vz hu hi hz hzs hb0 v n xs hown A m c (flat m cells) hfl hAne hcellsY hone hb (Nat.zero_le _)
    refine ⟨v', w', hrun, ?_⟩
    obtain ⟨hlen, hown'⟩ := hown'
    rcases hown' with ⟨rfl, h0⟩ | ⟨g', cap, cur, rfl, _, hh, h1, h2, h3, h4⟩
    · refine .inl ⟨h0, ⟨none, rfl⟩, ?_⟩
      rcases hcase with ⟨e, hg⟩ | ⟨e, _⟩
      · rw [← e] at hg; exact hg
      · cases e
    · refine .inr ⟨g', cap, cur, rfl, hh, h1, h2, h3, fun j hj => ?_, ?_⟩
      · rw [take_drop_take cur.toList j i.size (n + m) hj, h4]
        unfold appF
        by_cases hjn : j < n
        · simp only [hjn, decide_true, cond_true]
          rw [take_drop_take (xs ++ flat m cells) j i.size n hjn]
          have : (xs ++ flat m cells).take (n * i.size) = xs := by rw [← hown.1]; exact List.take_left
          rw [this]
          exact hxs j hjn
        · simp only [hjn, decide_false, cond_false]
          have e : (xs ++ flat m cells).drop (j * i.size) = (flat m cells).drop ((j - n) * i.size) := by
            rw [List.drop_append, List.drop_of_length_le (by rw [hown.1]; exact Nat.mul_le_mul_right _ (by omega)), List.nil_append, hown.1, ← Nat.sub_mul]
          rw [e, flat_part hsrc.len (by omega)]
          exact hsrc.rep _ (by omega)
      · rcases hcase with ⟨e, hg⟩ | ⟨e, hg⟩
        · have e' : v.ownBlock = some g' := by rw [← e]; rfl
          rw [e'] at hg
          exact .inl ⟨(hblk _ e').1, (hblk _ e').2, hg⟩
        · have e' : g' = w.heap.size := by simpa [Value.ownBlock] using e
          exact .inr ⟨e', hg⟩
  rcases hv with ⟨rfl, A0, rfl⟩ | ⟨b, cap, cur, rfl, hR, hh, h1, h2, h3, hels⟩
  · cases A0 with
    | none => exact owned [] (World.ownsRow_nil _ _ _ _) (fun j hj => by omega) (fun b hb => by cases hb)
    | some A0 =>
      rcases Nat.eq_zero_or_pos m with hm | hm
      · subst hm
        refine ⟨.slice (some A0) 0 0, w, ?_, .inl ⟨rfl, ⟨_, rfl⟩, World.grownBy.refl w _⟩⟩
        cases A with
        | none => simp [Builtin.append_, run_underlying hu, sizeOf, typeInfo, hi, Builtin.lenOf, Builtin.firstCells, storeCells]
        | some ad => simp [Builtin.append_, run_underlying hu, sizeOf, typeInfo, hi, Builtin.lenOf, Builtin.firstCells, storeCells, loadCells, loadCellsFrom]
      · obtain ⟨ad, rfl⟩ : ∃ ad, A = some ad := Option.ne_none_iff_exists'.1 (hAne hm)
        have hcm := grownCap_le_maxLen w (0 + m) 0 el h63
        have hge := grownCap_ge w (0 + m) 0 el
        have hrun := run_append_grow (P := P) (w := w) ts ty el i vz hu hi hz A0 0 0 [] (by simp) (fun j v hj => by simp at hj) ad m c (flat m cells) hfl (hcellsY ad rfl) (by omega) (by simp only [maxLen] at h63; omega)
          (by rw [Nat.zero_add, nextslicecap_zero hm]; rw [Nat.zero_add] at hb; omega)
        refine ⟨_, _, hrun, .inr ⟨w.heap.size, _, _, rfl, heap_alloc_new w.drew _, hge, hcm, ?_, fun j hj => ?_, .inr ⟨rfl, rfl, rfl, rfl, by simp, fun k hk _ => Below.heap_alloc w.drew _ k hk⟩⟩⟩
        · exact grown_size (cur := #[]) (xs := []) (k := 0) hzs (by simp) hfl hge
        · rw [Nat.zero_add] at hj
          have e : appF 0 f g j = g j := by simp [appF]
          rw [e, take_drop_take _ j i.size m hj]
          have : (([] : List Value).toArray ++ (flat m cells).toArray ++ Builtin.zeroCells vz.cells (grownCap w (0 + m) 0 el - (0 + m))).toList.take (m * i.size) = flat m cells := by
            simp only [Array.toList_append, List.nil_append]
            rw [← hfl]
            simp
          rw [this, flat_part hsrc.len hj]
          exact hsrc.rep j hj
  · have hcell : cur.toList.length = cap * i.size := by simpa using h3
    have hmul : n * i.size ≤ cap * i.size := Nat.mul_le_mul_right _ h1
    refine owned (cur.toList.take (n * i.size)) ⟨by rw [List.length_take, hcell]; exact Nat.min_eq_left hmul, .inr ⟨b, cap, cur, rfl, Nat.zero_le _, hh, h1, h2, h3, rfl⟩⟩ (fun j hj => ?_) (fun b' hb' => ?_)
    · rw [← take_drop_take cur.toList j i.size n hj]
      exact hels.1 j hj
    · have : b = b' := by simpa [Value.ownBlock] using hb'
      subst this
      exact ⟨hR, hels.2.1⟩
end
end Go.Eng
end

section
namespace Go.Eng
open Go.RowKit
set_option linter.unusedVariables false
set_option linter.unusedSimpArgs false

/-- References under other names stand for what they did. -/
structure RenOk (ρ : Nat → Option Nat) (G : Gx) (w : World) (G' : Gx) (w' : World) : Prop where
  gro : Gro G.S w G'.S w'
  R : ∀ r r' g, ρ r = some r' → G.R r g → G'.R r' g
  T : ∀ r r' v, ρ r = some r' → G.T r v → G'.T r' v
  L : ∀ r r' s n, ρ r = some r' → G.L r s n → G'.L r' s n

section
variable {ρ : Nat → Option Nat} {G : Gx} {w : World} {G' : Gx} {w' : World}
theorem RepX.ren (k : RenOk ρ G w G' w') : ∀ (d : Nat) {h : HV} {v : Value}, RepX G w h v → RepX G' w' (ren ρ d h) v := by
  intro d
  induction d with
  | zero => intro h v _; exact .undef _
  | succ d ih =>
    intro h v hr
    have lst : ∀ {hs : List HV} {vs : List Value}, RepXs G w hs vs → RepXs G' w' (hs.map (Eng.ren ρ d)) vs := by
      intro hs
      induction hs with
      | nil => intro vs h; cases h; exact .nil
      | cons x xs ih2 => intro vs h; cases h with | cons _ v _ vs h h1 hs => exact .cons _ _ _ _ (ih h) h1 (ih2 hs)
    have lstt : ∀ {hs : List HV} {vs : List Value}, RepXt G w hs vs → RepXt G' w' (hs.map (Eng.ren ρ d)) vs := by
      intro hs
      induction hs with
      | nil => intro vs h; cases h; exact .nil
      | cons x xs ih2 => intro vs h; cases h with | cons _ v _ vs h hs => exact .cons _ _ _ _ (ih h) (ih2 hs)
    cases hr with
    | undef => exact .undef _
    | nl sz z => exact .nl _ _
    | var r off g h =>
      simp only [Eng.ren]
      split
      · rename_i r' hr; exact .var _ _ _ (k.R _ _ _ hr h)
      · exact .undef _
    | elt r sz i off g n h hl hi =>
      simp only [Eng.ren]
      split
      · rename_i r' hr; exact .elt _ _ _ _ _ _ (k.R _ _ _ hr h) (k.L _ _ _ _ hr hl) hi
      · exact .undef _
    | arr r sz lo n A c m hl hn hc h =>
      simp only [Eng.ren]
      split
      · rename_i r' hr; exact .arr _ _ _ _ _ _ m (k.L _ _ _ _ hr hl) hn hc (fun h0 => let ⟨g, a, b⟩ := h h0; ⟨g, k.R _ _ _ hr a, b⟩)
      · exact .undef _
    | ow r A n c h =>
      simp only [Eng.ren]
      split
      · rename_i r' hr; exact .ow _ _ _ _ (k.T _ _ _ hr h)
      · exact .undef _
    | mp r g h =>
      simp only [Eng.ren]
      split
      · rename_i r' hr; exact .mp _ _ (k.R _ _ _ hr h)
      · exact .undef _
    | fn f cs vs h => exact .fn _ _ _ (lst h)
    | agg cs cells h => exact .agg _ _ (lst h)
    | tup hs us h => exact .tup _ _ (lstt h)
    | cl _ _ kc =>
      cases kc with
      | fn f cs vs h => exact .fn _ _ _ (lst (.ofC h))
      | agg cs cells h => exact .agg _ _ (lst (.ofC h))
      | any v h => exact .undef _
      | _ => exact .cl _ _ (RepC.mono k.gro (by constructor <;> assumption))
theorem RepXs.renL (k : RenOk ρ G w G' w') (d : Nat) : ∀ {hs : List HV} {vs : List Value}, RepXs G w hs vs → RepXs G' w' (hs.map (Eng.ren ρ d)) vs
  | _, _, .nil => .nil
  | _, _, .cons _ _ _ _ h h1 hs => .cons _ _ _ _ (RepX.ren k d h) h1 (RepXs.renL k d hs)
theorem RepXt.renL (k : RenOk ρ G w G' w') (d : Nat) : ∀ {hs : List HV} {vs : List Value}, RepXt G w hs vs → RepXt G' w' (hs.map (Eng.ren ρ d)) vs
  | _, _, .nil => .nil
  | _, _, .cons _ _ _ _ h hs => .cons _ _ _ _ (RepX.ren k d h) (RepXt.renL k d hs)

/-- A thing under another name. -/
theorem RepO.ren {P : Program} (k : RenOk ρ G w G' w') {r r' : Nat} (hr : ρ r = some r') {o : Ob} (h : RepO P G w r o) (hl : liveO (some o) = true ∨ o = .gone) (hb : ∀ g, G.R r g → w'.heap[g]? = w.heap[g]? ∧ ∀ o, G'.S g o → G.S g o) : RepO P G' w' r' (renO ρ o) := by
  have els : ∀ g mm sz n f cells, G.R r g → Els G w g mm sz n f cells → Els G' w' g mm sz n f cells := fun g mm sz n f cells hr he =>
    ⟨fun i hi => (he.1 i hi).mono k.gro, fun e o ho => he.2.1 e o ((hb g hr).2 o ho), fun e o ho => k.gro.sub _ _ (he.2.2 e o ho)⟩
  cases o with
  | cel cs =>
    obtain ⟨g, t, cells, hR, hh, hc, hn⟩ := h
    exact ⟨g, t, cells, k.R _ _ _ hr hR, (hb g hR).1.trans hh, hc.renL k 4, fun o ho => hn o ((hb g hR).2 o ho)⟩
  | row mm own sz n f =>
    obtain ⟨hL, h⟩ := h
    refine ⟨k.L _ _ _ _ hr hL, ?_⟩
    cases own with
    | none =>
      rcases h with h | ⟨g, t, cells, hR, hh, hle, he⟩
      · exact .inl h
      · exact .inr ⟨g, t, cells, k.R _ _ _ hr hR, (hb g hR).1.trans hh, hle, els _ _ _ _ _ _ hR he⟩
    | some e =>
      obtain ⟨hi, v, hT, h⟩ := h
      refine ⟨hi, v, k.T _ _ _ hr hT, ?_⟩
      rcases h with h | ⟨g, cap, cells, hv, hR, hh, h1, h2, h3, he⟩
      · exact .inl h
      · exact .inr ⟨g, cap, cells, hv, k.R _ _ _ hr hR, (hb g hR).1.trans hh, h1, h2, h3, els _ _ _ _ _ _ hR he⟩
  | map kk e gg cnt =>
    obtain ⟨b, hR, ⟨h1, h2, D, hD, hg⟩, hn⟩ := h
    refine ⟨b, k.R _ _ _ hr hR, ⟨h1, h2, D, ?_, hg⟩, fun o ho => hn o ((hb b hR).2 o ho)⟩
    obtain ⟨es, clock, hbb, rest⟩ := hD
    exact ⟨es, clock, (hb b hR).1.trans hbb, rest⟩
  | free => rcases hl with hl | hl <;> cases hl
  | gone => trivial
theorem liveO_ren (o : Ob) : liveO (some (renO ρ o)) = liveO (some o) := by cases o <;> rfl

/-! ### names by places -/
theorem nodupB_iff {l : List Nat} : nodupB l = true ↔ l.Nodup := by
  induction l with
  | nil => simp [nodupB]
  | cons x t ih => simp [nodupB, ih]
theorem posOf_some {l : List Nat} {r k : Nat} (h : posOf l r = some k) : l[k]? = some r := by
  induction l generalizing k with
  | nil => cases h
  | cons x t ih =>
    simp only [posOf] at h
    cases hx : x == r with
    | true => rw [hx] at h; simp at h; subst h; simp at hx; simp [hx]
    | false =>
      rw [hx] at h
      simp only [cond_false] at h
      cases hp : posOf t r with
      | none => rw [hp] at h; cases h
      | some j => rw [hp] at h; injection h with h; subst h; simpa using ih hp
theorem posOf_at {l : List Nat} (hn : l.Nodup) {r k : Nat} (h : l[k]? = some r) : posOf l r = some k := by
  induction l generalizing k with
  | nil => simp at h
  | cons x t ih =>
    simp only [posOf]
    cases k with
    | zero => simp at h; subst h; simp
    | succ k =>
      simp at h
      have hne : (x == r) = false := by
        have := (List.nodup_cons.1 hn).1
        simp only [beq_eq_false_iff_ne, ne_eq]
        intro e; subst e
        exact this (List.mem_of_getElem? h)
      rw [hne, cond_false, ih (List.nodup_cons.1 hn).2 h]

/-- What is seen of it by a call. -/
def subG (G : Gx) (ids : List Nat) : Gx := ⟨G.S, fun j g => ∃ r, ids[j]? = some r ∧ G.R r g, fun j v => ∃ r, ids[j]? = some r ∧ G.T r v, fun j s n => ∃ r, ids[j]? = some r ∧ G.L r s n⟩
theorem RenOk.sub (G : Gx) (w : World) {ids : List Nat} : RenOk (posOf ids) G w (subG G ids) w :=
  ⟨Gro.refl _ _, fun r r' g h hr => ⟨r, posOf_some h, hr⟩, fun r r' g h hr => ⟨r, posOf_some h, hr⟩, fun r r' s n h hr => ⟨r, posOf_some h, hr⟩⟩
theorem St.sub {P : Program} {st : List Ob} (h : St P G st w) {ids : List Nat} (hn : ids.Nodup) (hl : ∀ r ∈ ids, live st r) : St P (subG G ids) (ids.map fun r => renO (posOf ids) (st.getD r .gone)) w := by
  have hlen : (ids.map fun r => renO (posOf ids) (st.getD r .gone)).length = ids.length := by simp
  have lt : ∀ {j r}, ids[j]? = some r → j < ids.length := fun h => (List.getElem?_eq_some_iff.1 h).1
  have mem : ∀ {j r}, ids[j]? = some r → r ∈ ids := fun h => List.mem_of_getElem? h
  have inj : ∀ {j j' r}, ids[j]? = some r → ids[j']? = some r → j = j' := fun {j j' r} a b => by
    have := posOf_at hn a
    rw [posOf_at hn b] at this
    injection this with this
    exact this.symm
  refine { obj := fun j o ho => ?_, rlt := fun j g ⟨r, h1, _⟩ => by rw [hlen]; exact lt h1, tlt := fun j g ⟨r, h1, _⟩ => by rw [hlen]; exact lt h1, llt := fun j s n ⟨r, h1, _⟩ => by rw [hlen]; exact lt h1, rfun := ?_, tfun := ?_, lfun := ?_, rinj := ?_, rold := fun j g ⟨r, _, h1⟩ => h.rold _ _ h1, slt := h.slt }
  · rw [List.getElem?_map] at ho
    cases hj : ids[j]? with
    | none => rw [hj] at ho; cases ho
    | some r =>
      rw [hj] at ho
      simp only [Option.map_some, Option.some.injEq] at ho
      subst ho
      have hlv := hl r (mem hj)
      cases hs : st[r]? with
      | none => unfold live at hlv; rw [hs] at hlv; cases hlv
      | some o =>
        rw [List.getD_eq_getElem?_getD, hs, Option.getD_some]
        unfold live at hlv
        rw [hs] at hlv
        exact (h.obj _ _ hs).ren (RenOk.sub G w) (posOf_at hn hj) (.inl hlv) (fun g _ => ⟨rfl, fun _ h => h⟩)
  · rintro j g g' ⟨r, h1, h2⟩ ⟨r', h1', h2'⟩
    rw [h1] at h1'; injection h1' with e; subst e
    exact h.rfun _ _ _ h2 h2'
  · rintro j g g' ⟨r, h1, h2⟩ ⟨r', h1', h2'⟩
    rw [h1] at h1'; injection h1' with e; subst e
    exact h.tfun _ _ _ h2 h2'
  · rintro j s n s' n' ⟨r, h1, h2⟩ ⟨r', h1', h2'⟩
    rw [h1] at h1'; injection h1' with e; subst e
    exact h.lfun _ _ _ _ _ h2 h2'
  · rintro j j' g _ _ ⟨r, h1, h2⟩ ⟨r', h1', h2'⟩
    have e := h.rinj _ _ _ (hl _ (mem h1)) (hl _ (mem h1')) h2 h2'
    subst e
    exact inj h1 h1'

/-! ### back to the caller's names -/
def bk (ids : List Nat) (nw k : Nat) : Nat := match ids[k]? with | some r => r | none => nw + (k - ids.length)
theorem backN_eq (ids : List Nat) (nw : Nat) : backN ids nw = fun k => some (bk ids nw k) := by funext k; unfold backN bk; cases ids[k]? <;> rfl
theorem bk_lt {ids : List Nat} {nw k : Nat} (h : k < ids.length) : ids[k]? = some (bk ids nw k) := by unfold bk; rw [List.getElem?_eq_getElem h]
theorem bk_ge {ids : List Nat} {nw k : Nat} (h : ids.length ≤ k) : bk ids nw k = nw + (k - ids.length) := by unfold bk; rw [List.getElem?_eq_none h]
/-- Where new things may stand. -/
def Room (st : List Ob) (ids : List Nat) (nw m : Nat) : Prop := nw = st.length ∨ (st[nw]? = some .free ∧ m ≤ ids.length + 1)

theorem numW_get (ids : List Nat) (nw : Nat) : ∀ (so : List Ob) (k0 : Nat) (st : List Ob), (∀ k, k0 ≤ k → k < ids.length → ∀ r, ids[k]? = some r → r < st.length) → (∀ k k', k ≠ k' → k < k0 + so.length → k' < k0 + so.length → bk ids nw k ≠ bk ids nw k') →
    ((st.length = nw + (k0 - ids.length)) ∨ (nw < st.length ∧ k0 + so.length ≤ ids.length + 1)) →
    ((∀ r, (∃ k o, k0 ≤ k ∧ so[k - k0]? = some o ∧ bk ids nw k = r ∧ (appl st (numW ids nw so k0))[r]? = some (renO (backN ids nw) o)) ∨ ((∀ k, k0 ≤ k → k < k0 + so.length → bk ids nw k ≠ r) ∧ (appl st (numW ids nw so k0))[r]? = st[r]?)) ∧ st.length ≤ (appl st (numW ids nw so k0)).length) := by
  intro so
  induction so with
  | nil => intro k0 st _ _ _; exact ⟨fun r => .inr ⟨fun k h1 h2 => by simp at h2; omega, rfl⟩, Nat.le_refl _⟩
  | cons o so ih =>
    intro k0 st hlt hinj hroom
    have hr0 : bk ids nw k0 ≤ st.length := by
      rcases Nat.lt_or_ge k0 ids.length with h | h
      · have := hlt k0 (Nat.le_refl _) h _ (bk_lt (nw := nw) h); omega
      · rw [bk_ge h]
        rcases hroom with e | ⟨e, e2⟩
        · omega
        · simp at e2; omega
    have hstep : numW ids nw (o :: so) k0 = (bk ids nw k0, renO (backN ids nw) o) :: numW ids nw so (k0 + 1) := by
      simp only [numW, backN_eq]
    rw [hstep]
    show _ ∧ _ ≤ (appl (setO st (bk ids nw k0) (renO (backN ids nw) o)) (numW ids nw so (k0 + 1))).length
    have hlen := setO_len (o := renO (backN ids nw) o) hr0
    obtain ⟨h1, h2⟩ := ih (k0 + 1) (setO st (bk ids nw k0) (renO (backN ids nw) o)) (fun k hk hk2 r hr => by have := hlt k (by omega) hk2 r hr; rw [hlen]; omega) (fun k k' hne a b => hinj k k' hne (by simp at a ⊢; omega) (by simp at b ⊢; omega)) (by
      rw [hlen]
      rcases hroom with e | ⟨e, e2⟩
      · rcases Nat.lt_or_ge k0 ids.length with h | h
        · have := hlt k0 (Nat.le_refl _) h _ (bk_lt (nw := nw) h)
          left; omega
        · have := bk_ge (nw := nw) h
          left; omega
      · right; simp at e2; omega)
    refine ⟨fun r => ?_, by rw [hlen] at h2; omega⟩
    rcases h1 r with ⟨k, o', hk, ho', hb, hg⟩ | ⟨hno, hg⟩
    · refine .inl ⟨k, o', by omega, ?_, hb, hg⟩
      rw [show k - k0 = (k - (k0 + 1)) + 1 from by omega]
      simpa using ho'
    · by_cases e : bk ids nw k0 = r
      · refine .inl ⟨k0, o, Nat.le_refl _, by simp, e, ?_⟩
        show (appl (setO st (bk ids nw k0) (renO (backN ids nw) o)) (numW ids nw so (k0 + 1)))[r]? = _
        rw [hg, setO_get hr0, if_pos e]
      · refine .inr ⟨fun k hk hk2 => ?_, ?_⟩
        · rcases Nat.lt_or_ge k0 k with h | h
          · exact hno k (by omega) (by simp at hk2; omega)
          · have : k = k0 := by omega
            subst this; exact e
        · show (appl (setO st (bk ids nw k0) (renO (backN ids nw) o)) (numW ids nw so (k0 + 1)))[r]? = _
          rw [hg, setO_get hr0, if_neg e]
end
end Go.Eng
end

section
namespace Go.Eng
open Go.RowKit
set_option linter.unusedVariables false
set_option linter.unusedSimpArgs false

/-- What a call that writes leaves. -/
def PostX (P : Program) (n : Nat) (G : Gx) (w : World) (r : HV) (st' : List Ob) (en : Ending) (w' : World) : Prop := ∃ v G', en = .returned v ∧ St P G' st' w' ∧ Fr n G w G' w' ∧ RepX G' w' r v
def CallOkX (P : Program) (call2 : Nat → List HV → List Ob → Option (HV × List Ob)) : Prop :=
  ∀ f args st r st', call2 f args st = some (r, st') → ∀ (G : Gx) (w : World) (vs : List Value), St P G st w → RepXt G w args vs → Calls P f vs.toArray w (PostX P st.length G w r st')

section
variable {β : Type} {P : Program} {G : Gx} {st : List Ob} {w : World} {K : KO β} {r : β} {o : Oper} {a : Act} {Q : Exit → Act → World → Prop} {e : List HV}

/-- The caller's things, and the call's. -/
def mer (G G1 : Gx) (ids : List Nat) (nw : Nat) : Gx :=
  ⟨G1.S, fun r g => G.R r g ∨ ∃ k, bk ids nw k = r ∧ G1.R k g, fun r v => G.T r v ∨ ∃ k, bk ids nw k = r ∧ G1.T k v, fun r s n => G.L r s n ∨ ∃ k, bk ids nw k = r ∧ G1.L k s n⟩

theorem St.back (h : St P G st w) {ids : List Nat} (hn : ids.Nodup) (hl : ∀ r ∈ ids, live st r) {G1 : Gx} {w1 : World} {so : List Ob} {nw : Nat} (h1 : St P G1 so w1) (hf : Fr ids.length (subG G ids) w G1 w1) (hroom : Room st ids nw so.length) (hmin : ids.length ≤ so.length) :
    St P (mer G G1 ids nw) (appl st (numW ids nw so 0)) w1 ∧ Mono G w (mer G G1 ids nw) w1 ∧ (∀ n, Fr n G w (mer G G1 ids nw) w1) ∧ RenOk (backN ids nw) G1 w1 (mer G G1 ids nw) w1 := by
  have mem : ∀ {j r}, ids[j]? = some r → r ∈ ids := fun h => List.mem_of_getElem? h
  have hlv : ∀ {j : Nat} {r : Nat}, ids[j]? = some r → r < st.length := fun {j r} hj => by
    have := hl _ (mem hj)
    unfold live at this
    cases hs : st[r]? with
    | none => rw [hs] at this; cases this
    | some o => exact (List.getElem?_eq_some_iff.1 hs).1
  have hnw : ∀ k, ids.length ≤ k → k < so.length → bk ids nw k ∉ ids ∧ (∀ r, G.R (bk ids nw k) r → False) ∧ (∀ v, G.T (bk ids nw k) v → False) ∧ (∀ s n, G.L (bk ids nw k) s n → False) := fun k hk hk2 => by
    rw [bk_ge hk]
    rcases hroom with e | ⟨e1, e2⟩
    · refine ⟨fun hm => ?_, fun r hr => ?_, fun v hr => ?_, fun s n hr => ?_⟩
      · obtain ⟨j, hj, he⟩ := List.mem_iff_getElem.1 hm
        have := hlv (List.getElem?_eq_getElem hj); omega
      · have := h.rlt _ _ hr; omega
      · have := h.tlt _ _ hr; omega
      · have := h.llt _ _ _ hr; omega
    · have : k - ids.length = 0 := by omega
      rw [this, Nat.add_zero]
      obtain ⟨n1, n2, n3⟩ := h.obj _ _ e1
      refine ⟨fun hm => ?_, n1, n2, n3⟩
      have := hl _ hm
      unfold live at this
      rw [e1] at this
      cases this
  have hinj : ∀ k k', k ≠ k' → k < so.length → k' < so.length → bk ids nw k ≠ bk ids nw k' := fun k k' hne hk hk' heq => by
    rcases Nat.lt_or_ge k ids.length with a | a <;> rcases Nat.lt_or_ge k' ids.length with b | b
    · have e1 := bk_lt (nw := nw) a
      have e2 := bk_lt (nw := nw) b
      rw [← heq] at e2
      have := posOf_at hn e1
      rw [posOf_at hn e2] at this
      injection this with this
      exact hne this.symm
    · exact (hnw k' b hk').1 (heq ▸ mem (bk_lt (nw := nw) a))
    · exact (hnw k a hk).1 (heq ▸ mem (bk_lt (nw := nw) b))
    · rw [bk_ge a, bk_ge b] at heq; omega
  obtain ⟨hget, hlen⟩ := numW_get ids nw so 0 st (fun k _ hk r hr => hlv hr) (fun k k' hne a b => hinj k k' hne (by omega) (by omega)) (by
    rcases hroom with e | ⟨e1, e2⟩
    · left; omega
    · right; exact ⟨(List.getElem?_eq_some_iff.1 e1).1, by omega⟩)
  have hbl : ∀ k, k < so.length → bk ids nw k < (appl st (numW ids nw so 0)).length := fun k hk => by
    rcases hget (bk ids nw k) with ⟨k', o, _, _, _, hg⟩ | ⟨hno, _⟩
    · exact (List.getElem?_eq_some_iff.1 hg).1
    · exact (hno k (Nat.zero_le _) (by omega) rfl).elim
  -- the old names keep their meaning
  have keepR : ∀ j r g, ids[j]? = some r → G.R r g → G1.R j g := fun j r g hj hr => hf.rkeep j g (List.getElem?_eq_some_iff.1 hj).1 ⟨r, hj, hr⟩
  have keepT : ∀ j r g, ids[j]? = some r → G.T r g → G1.T j g := fun j r g hj hr => hf.tkeep j g (List.getElem?_eq_some_iff.1 hj).1 ⟨r, hj, hr⟩
  have keepL : ∀ j r s n, ids[j]? = some r → G.L r s n → G1.L j s n := fun j r s n hj hr => hf.lkeep j s n (List.getElem?_eq_some_iff.1 hj).1 ⟨r, hj, hr⟩
  have idx : ∀ k, k < so.length → (∃ j, j < ids.length ∧ k = j) ∨ ids.length ≤ k := fun k _ => by
    rcases Nat.lt_or_ge k ids.length with a | a
    · exact .inl ⟨k, a, rfl⟩
    · exact .inr a
  have both : ∀ k, k < so.length → (∀ g, G.R (bk ids nw k) g → G1.R k g) ∧ (∀ v, G.T (bk ids nw k) v → G1.T k v) ∧ ∀ s n, G.L (bk ids nw k) s n → G1.L k s n := fun k hk => by
    rcases Nat.lt_or_ge k ids.length with a | a
    · exact ⟨fun g hr => keepR _ _ _ (bk_lt (nw := nw) a) hr, fun g hr => keepT _ _ _ (bk_lt (nw := nw) a) hr, fun s n hr => keepL _ _ _ _ (bk_lt (nw := nw) a) hr⟩
    · obtain ⟨_, n1, n2, n3⟩ := hnw k a hk
      exact ⟨fun g hr => (n1 g hr).elim, fun g hr => (n2 g hr).elim, fun s n hr => (n3 s n hr).elim⟩
  have ks : ∀ k g, G1.R k g → k < so.length := h1.rlt
  have kt : ∀ k g, G1.T k g → k < so.length := h1.tlt
  have kl : ∀ k s n, G1.L k s n → k < so.length := h1.llt
  have sameK : ∀ {k k'}, k < so.length → k' < so.length → bk ids nw k = bk ids nw k' → k = k' := fun {k k'} a b heq => by
    rcases Nat.decEq k k' with hne | he
    · exact (hinj k k' hne a b heq).elim
    · exact he
  have gro : Gro G.S w G1.S w1 := hf.gro
  have mo : Mono G w (mer G G1 ids nw) w1 := ⟨gro, fun _ _ h => .inl h, fun _ _ h => .inl h, fun _ _ _ h => .inl h⟩
  have rk : RenOk (backN ids nw) G1 w1 (mer G G1 ids nw) w1 := by
    rw [backN_eq]
    exact ⟨Gro.refl _ _, fun k r' g he hr => .inr ⟨k, by injection he, hr⟩, fun k r' g he hr => .inr ⟨k, by injection he, hr⟩, fun k r' s n he hr => .inr ⟨k, by injection he, hr⟩⟩
  -- blocks that the call did not see
  have unseen : ∀ r g, live st r → (∀ k, k < so.length → bk ids nw k ≠ r) → G.R r g → (∀ j, ¬ (subG G ids).R j g) := fun r g hlr hno hr j ⟨r', hj, hr'⟩ => by
    have e := h.rinj _ _ _ hlr (hl _ (mem hj)) hr hr'
    subst e
    have hjl := (List.getElem?_eq_some_iff.1 hj).1
    have e1 := bk_lt (nw := nw) hjl
    rw [hj] at e1
    injection e1 with e1
    exact hno j (by omega) e1.symm
  refine ⟨{ obj := fun r o ho => ?_, rlt := ?_, tlt := ?_, llt := ?_, rfun := ?_, tfun := ?_, lfun := ?_, rinj := ?_, rold := ?_, slt := h1.slt }, mo, fun n => ?_, rk⟩
  · rcases hget r with ⟨k, o', _, hk, hb, hg⟩ | ⟨hno, hg⟩
    · rw [hg] at ho
      injection ho with ho
      subst ho
      rw [Nat.sub_zero] at hk
      have hob := h1.obj _ _ hk
      by_cases hlo : liveO (some o') = true ∨ o' = .gone
      · subst hb
        exact hob.ren rk (by rw [backN_eq]) hlo (fun g _ => ⟨rfl, fun _ h => h⟩)
      · have : o' = .free := by cases o' <;> first | exact (hlo (.inl rfl)).elim | exact (hlo (.inr rfl)).elim | rfl
        subst this
        obtain ⟨n1, n2, n3⟩ := hob
        have hkl := (List.getElem?_eq_some_iff.1 hk).1
        obtain ⟨b1, b2, b3⟩ := both k hkl
        subst hb
        refine ⟨fun g hr => ?_, fun g hr => ?_, fun s n hr => ?_⟩
        · rcases hr with hr | ⟨k', e, hr⟩
          · exact n1 _ (b1 _ hr)
          · obtain rfl := sameK (ks _ _ hr) hkl e; exact n1 _ hr
        · rcases hr with hr | ⟨k', e, hr⟩
          · exact n2 _ (b2 _ hr)
          · obtain rfl := sameK (kt _ _ hr) hkl e; exact n2 _ hr
        · rcases hr with hr | ⟨k', e, hr⟩
          · exact n3 _ _ (b3 _ _ hr)
          · obtain rfl := sameK (kl _ _ _ hr) hkl e; exact n3 _ _ hr
    · rw [hg] at ho
      have hob := h.obj _ _ ho
      by_cases hlo : liveO (some o) = true ∨ o = .gone
      · rcases hlo with hlo | hlo
        · refine hob.kept (.inl hlo) mo hf.size (fun g hr => ?_)
          have hu := unseen r g (live_of ho hlo) (fun k hk => hno k (Nat.zero_le _) (by omega)) hr
          refine ⟨hf.blk g (h.rold _ _ hr) hu, fun o' ho' => ?_⟩
          rcases hf.snew g o' ho' with x | ⟨j, x⟩ | x
          · exact x
          · exact (hu j x).elim
          · have := h.rold _ _ hr; omega
        · subst hlo; trivial
      · have : o = .free := by cases o <;> first | exact (hlo (.inl rfl)).elim | exact (hlo (.inr rfl)).elim | rfl
        subst this
        obtain ⟨n1, n2, n3⟩ := hob
        refine ⟨fun g hr => ?_, fun g hr => ?_, fun s n hr => ?_⟩
        · rcases hr with hr | ⟨k', e, hr⟩
          · exact n1 _ hr
          · exact hno k' (Nat.zero_le _) (by have := ks _ _ hr; omega) e
        · rcases hr with hr | ⟨k', e, hr⟩
          · exact n2 _ hr
          · exact hno k' (Nat.zero_le _) (by have := kt _ _ hr; omega) e
        · rcases hr with hr | ⟨k', e, hr⟩
          · exact n3 _ _ hr
          · exact hno k' (Nat.zero_le _) (by have := kl _ _ _ hr; omega) e
  · rintro r g (hr | ⟨k, rfl, hr⟩)
    · exact Nat.lt_of_lt_of_le (h.rlt _ _ hr) hlen
    · exact hbl _ (ks _ _ hr)
  · rintro r g (hr | ⟨k, rfl, hr⟩)
    · exact Nat.lt_of_lt_of_le (h.tlt _ _ hr) hlen
    · exact hbl _ (kt _ _ hr)
  · rintro r s n (hr | ⟨k, rfl, hr⟩)
    · exact Nat.lt_of_lt_of_le (h.llt _ _ _ hr) hlen
    · exact hbl _ (kl _ _ _ hr)
  · rintro r g g' (hr | ⟨k, e, hr⟩) (hr' | ⟨k', e', hr'⟩)
    · exact h.rfun _ _ _ hr hr'
    · subst e'; exact h1.rfun _ _ _ ((both k' (ks _ _ hr')).1 _ hr) hr'
    · subst e; exact h1.rfun _ _ _ hr ((both k (ks _ _ hr)).1 _ hr')
    · subst e; obtain rfl := sameK (ks _ _ hr') (ks _ _ hr) e'; exact h1.rfun _ _ _ hr hr'
  · rintro r g g' (hr | ⟨k, e, hr⟩) (hr' | ⟨k', e', hr'⟩)
    · exact h.tfun _ _ _ hr hr'
    · subst e'; exact h1.tfun _ _ _ ((both k' (kt _ _ hr')).2.1 _ hr) hr'
    · subst e; exact h1.tfun _ _ _ hr ((both k (kt _ _ hr)).2.1 _ hr')
    · subst e; obtain rfl := sameK (kt _ _ hr') (kt _ _ hr) e'; exact h1.tfun _ _ _ hr hr'
  · rintro r s n s' n' (hr | ⟨k, e, hr⟩) (hr' | ⟨k', e', hr'⟩)
    · exact h.lfun _ _ _ _ _ hr hr'
    · subst e'; exact h1.lfun _ _ _ _ _ ((both k' (kl _ _ _ hr')).2.2 _ _ hr) hr'
    · subst e; exact h1.lfun _ _ _ _ _ hr ((both k (kl _ _ _ hr)).2.2 _ _ hr')
    · subst e; obtain rfl := sameK (kl _ _ _ hr') (kl _ _ _ hr) e'; exact h1.lfun _ _ _ _ _ hr hr'
  · intro r r' g l1 l2 hr hr'
    -- each live thing is the call's, or was not seen
    have cls : ∀ r g, live (appl st (numW ids nw so 0)) r → (mer G G1 ids nw).R r g → (∃ k, k < so.length ∧ bk ids nw k = r ∧ live so k ∧ G1.R k g) ∨ (live st r ∧ (∀ k, k < so.length → bk ids nw k ≠ r) ∧ G.R r g) := fun r g lr hr => by
      unfold live at lr
      rcases hget r with ⟨k, o', _, hk, hb, hg⟩ | ⟨hno, hg⟩
      · rw [hg, liveO_ren] at lr
        rw [Nat.sub_zero] at hk
        have hkl := (List.getElem?_eq_some_iff.1 hk).1
        refine .inl ⟨k, hkl, hb, by unfold live; rw [hk]; exact lr, ?_⟩
        subst hb
        rcases hr with hr | ⟨k', e, hr⟩
        · exact (both k hkl).1 _ hr
        · obtain rfl := sameK (ks _ _ hr) hkl e; exact hr
      · rw [hg] at lr
        refine .inr ⟨lr, fun k hk => hno k (Nat.zero_le _) (by omega), ?_⟩
        rcases hr with hr | ⟨k', e, hr⟩
        · exact hr
        · exact (hno k' (Nat.zero_le _) (by have := ks _ _ hr; omega) e).elim
    have cross : ∀ k g r, k < so.length → G1.R k g → live st r → (∀ k, k < so.length → bk ids nw k ≠ r) → G.R r g → False := fun k g r hk hr hlr hno hr' => by
      rcases hf.rnew k g hr with ⟨j, hj⟩ | hge
      · exact unseen r g hlr hno hr' j hj
      · have := h.rold _ _ hr'; omega
    rcases cls r g l1 hr with ⟨k, hk, e, lk, hr1⟩ | ⟨lr, hno, hr1⟩ <;> rcases cls r' g l2 hr' with ⟨k', hk', e', lk', hr1'⟩ | ⟨lr', hno', hr1'⟩
    · obtain rfl := h1.rinj _ _ _ lk lk' hr1 hr1'
      rw [← e, ← e']
    · exact (cross k g r' hk hr1 lr' hno' hr1').elim
    · exact (cross k' g r hk' hr1' lr hno hr1).elim
    · exact h.rinj _ _ _ lr lr' hr1 hr1'
  · rintro r g (hr | ⟨k, _, hr⟩)
    · exact Nat.lt_of_lt_of_le (h.rold _ _ hr) hf.size
    · exact h1.rold _ _ hr
  · refine ⟨hf.os, hf.tape, hf.output, hf.size, fun k hk hno => hf.blk k hk (fun j ⟨r, _, hr⟩ => hno r hr), gro, fun b o hs => ?_, fun r g hr => ?_, fun _ _ _ h => .inl h, fun _ _ _ h => .inl h, fun _ _ _ _ h => .inl h⟩
    · rcases hf.snew b o hs with x | ⟨j, r, _, x⟩ | x
      · exact .inl x
      · exact .inr (.inl ⟨r, x⟩)
      · exact .inr (.inr x)
    · rcases hr with hr | ⟨k, _, hr⟩
      · exact .inl ⟨r, hr⟩
      · rcases hf.rnew k g hr with ⟨j, r0, _, x⟩ | x
        · exact .inl ⟨r0, x⟩
        · exact .inr x

/-- A call that writes. -/
theorem call_inout {call2 : Nat → List HV → List Ob → Option (HV × List Ob)} (hC : CallOkX P call2) (hI : St P G st w) {ids : List Nat} (hn : ids.Nodup) (hl : ∀ r ∈ ids, live st r) {g : Nat} {as : List HV} {vs : List Value} (ha : RepXt G w as vs) {rv : HV} {so : List Ob}
    (hc : call2 g (as.map (ren (posOf ids) 5)) (ids.map fun r => renO (posOf ids) (st.getD r .gone)) = some (rv, so)) {nw : Nat} (hroom : Room st ids nw so.length) (hmin : ids.length ≤ so.length) :
    Calls P g vs.toArray w fun en w' => ∃ v G', en = .returned v ∧ St P G' (appl st (numW ids nw so 0)) w' ∧ Mono G w G' w' ∧ (∀ n, Fr n G w G' w') ∧ RepX G' w' (ren (backN ids nw) 5 rv) v := by
  refine Calls.mono (hC g _ _ rv so hc (subG G ids) w vs (hI.sub hn hl) (RepXt.renL (RenOk.sub G w) 5 ha)) ?_
  rintro en w' ⟨v, G1, rfl, h1, hf, hv⟩
  obtain ⟨k1, k2, k3, k4⟩ := hI.back hn hl h1 (by simpa using hf) hroom hmin
  exact ⟨v, _, rfl, k1, k2, k3, hv.ren k4 5⟩
end
end Go.Eng
end

section
namespace Go.Eng
open Go.RowKit
set_option linter.unusedVariables false
set_option linter.unusedSimpArgs false

section
variable {β : Type} {P : Program} {G : Gx} {st : List Ob} {w : World} {K : KO β} {r : β} {o : Oper} {a : Act} {Q : Exit → Act → World → Prop} {e : List HV}

/-! ### appending -/
/-- A list that has grown stands at a new place. -/
theorem St.grownRow {G1 : Gx} {st1 : List Ob} {w' : World} {id el sz k : Nat} {f : Nat → List HV} {v : Value} (X : Nat → Prop) (h : St P G1 st1 w') (hf : Fresh st1 id) (hi : (P.info? el).map (·.size) = some sz)
    (hv : (k = 0 ∧ ∃ A, v = .slice A 0 0) ∨ ∃ g cap cur, v = .slice (some ⟨g, 0, none⟩) k cap ∧ w'.heap[g]? = some (.cells cur el (0, 0)) ∧ k ≤ cap ∧ cap ≤ maxLen ∧ cur.size = cap * sz ∧ (∀ i, i < k → RepCs G1.S w' (f i) ((cur.toList.drop (i * sz)).take sz)) ∧ (∀ o, ¬ G1.S g o) ∧ (∀ r, live st1 r → ¬ G1.R r g) ∧ X g) :
    ∃ b, (∀ g, b = some g → X g) ∧ St P (pushX G1 id b (some v) (some (sz, k))) (setO st1 id (.row true (some el) sz k f)) w' ∧ RepX (pushX G1 id b (some v) (some (sz, k))) w' (.ow id) v := by
  rcases hv with ⟨rfl, A, rfl⟩ | ⟨g, cap, cur, rfl, hh, h1, h2, h3, h4, h5, h6, h7⟩
  · have ro : RepO P (pushX G1 id none (some (.slice A 0 0)) (some (sz, 0))) w' id (.row true (some el) sz 0 f) := ⟨.inr ⟨rfl, rfl⟩, hi, _, .inr ⟨rfl, rfl⟩, .inl ⟨rfl, A, rfl⟩⟩
    exact ⟨none, (fun g hg => by cases hg), h.fill hf (fun g hg => by cases hg) ro rfl, .ow _ _ _ _ (.inr ⟨rfl, rfl⟩)⟩
  · have ro : RepO P (pushX G1 id (some g) (some (.slice (some ⟨g, 0, none⟩) k cap)) (some (sz, k))) w' id (.row true (some el) sz k f) := ⟨.inr ⟨rfl, rfl⟩, hi, _, .inr ⟨rfl, rfl⟩, .inr ⟨g, cap, cur, rfl, .inr ⟨rfl, rfl⟩, hh, h1, h2, h3, h4, fun _ => h5, fun e => by cases e⟩⟩
    refine ⟨some g, (fun g' hg => by injection hg with hg; subst hg; exact h7), h.fill hf (fun g' hg => ?_) ro rfl, .ow _ _ _ _ (.inr ⟨rfl, rfl⟩)⟩
    injection hg with hg
    subst hg
    exact ⟨(Array.getElem?_eq_some_iff.1 hh).1, h6⟩

theorem Fresh.setO {st : List Ob} {id r : Nat} {o : Ob} (hf : Fresh st id) (hr : r < st.length) (hne : r ≠ id) : Fresh (setO st r o) id := by
  rcases hf with hf | hf
  · left; rw [setO_len (by omega)]; omega
  · right; rw [setO_get (by omega), if_neg hne]; exact hf

theorem opx_append {s x : Operand} {hs hx : HV} {c : Call} {t id : Nat} (ho : o.op = .call c) (hc : c.callee = .builtin .append) (ha : c.args.toList = [s, x]) (ht : c.argTypes.toList = [t, t]) (hI : St P G st w) (hf : Fresh st id) (hvs : RepX G w hs (a.eval s)) (hvx : RepX G w hx (a.eval x))
    (hk : appendK P id t hs hx st K = some r) : o.wp P a w (OpX P G st w K r o a) Q := by
  unfold appendK at hk
  split at hk
  rotate_left
  · cases hk
  rename_i el sz z by_ he
  obtain ⟨hu, hinfo⟩ := elemT_info he
  obtain ⟨sz', m, g, rd, A, cc, cells, hk1, hx', hmc, hsrc0⟩ := srcK_inv hI hvx hk
  clear hk
  obtain ⟨hsz, hk⟩ := br_none hk1
  clear hk1
  have hsrc : Src G w sz m g A cells := by
    simp only [Bool.or_eq_true, beq_iff_eq] at hsz
    rcases hsz with rfl | rfl
    · exact hsrc0
    · exact Src.zero
  clear hsrc0
  -- from nil
  have fromNil : a.eval s = .slice none 0 0 → br (decide (m * by_ ≤ 140737488355328)) (K (.ow id) [(id, .row true (some el) sz m g)] rd) none = some r → o.wp P a w (OpX P G st w K r o a) Q := by
    intro hsl hk
    obtain ⟨hb, hk⟩ := br_none hk
    simp only [decide_eq_true_eq] at hb
    have key0 := hI.emptyRow hf hinfo none z
    have hsrc0 : Src (pushX G id none (some (.slice none 0 0)) (some (sz, 0))) w sz m g A cells := ⟨hsrc.rep, hsrc.len, hsrc.at_⟩
    have hid : (setO st id (.row true (some el) sz 0 (fun _ => z)))[id]? = some (.row true (some el) sz 0 (fun _ => z)) := by rw [setO_get hf.le, if_pos rfl]
    obtain ⟨v', w', hrun, hres⟩ := run_appendX (f := fun _ => z) (n := 0) he key0.1 (key0.1.obj _ _ hid).2 (.inr ⟨rfl, rfl⟩) hsrc0 (c := cc) (by simpa using hb) o.type
    have e0 : appF 0 (fun _ => z) g = g := by funext i; simp [appF]
    rw [e0] at hres
    simp only [Nat.zero_add] at hres
    have hgr : w.grownBy w' none := by
      rcases hres with ⟨_, _, h⟩ | ⟨g', cap, cur, _, _, _, _, _, _, h⟩
      · exact h
      · rcases h with ⟨hR, _, _⟩ | ⟨_, h⟩
        · rcases hR with hR | ⟨_, hR⟩
          · exact ((hf.no hI).1 _ hR).elim
          · cases hR
        · exact h
    have hbel : Below w.heap.size w w' := ⟨hgr.os, hgr.tape, hgr.output, hgr.size, fun k hk => hgr.block k hk (by simp)⟩
    obtain ⟨k1, k2, k3⟩ := hI.grow hbel (S' := G.S) (fun _ _ h => h) (fun _ _ h => .inl h) (fun b o h => Nat.lt_of_lt_of_le (hI.slt b o h) hbel.size)
    have hnew : (m = 0 ∧ ∃ A, v' = .slice A 0 0) ∨ ∃ g' cap cur, v' = .slice (some ⟨g', 0, none⟩) m cap ∧ w'.heap[g']? = some (.cells cur el (0, 0)) ∧ m ≤ cap ∧ cap ≤ maxLen ∧ cur.size = cap * sz ∧ (∀ i, i < m → RepCs G.S w' (g i) ((cur.toList.drop (i * sz)).take sz)) ∧ (∀ o, ¬ G.S g' o) ∧ (∀ r, live st r → ¬ G.R r g') ∧ w.heap.size ≤ g' := by
      rcases hres with ⟨h0, h1, _⟩ | ⟨g', cap, cur, h1, h2, h3, h4, h5, h6, h⟩
      · exact .inl ⟨h0, h1⟩
      · rcases h with ⟨hR, _, _⟩ | ⟨h, _⟩
        · rcases hR with hR | ⟨_, hR⟩
          · exact ((hf.no hI).1 _ hR).elim
          · cases hR
        · exact .inr ⟨g', cap, cur, h1, h2, h3, h4, h5, fun i hi => (h6 i hi).mono k2.gro, fun o hs => by have := hI.slt _ _ hs; omega, (fun r _ hr => by have := hI.rold _ _ hr; omega), by omega⟩
    obtain ⟨b, hb', j1, j2⟩ := k1.grownRow (fun g' => w.heap.size ≤ g') hf hinfo hnew
    refine wp_val (execOp_append ho hc ha ht (v' := v') (w' := w') (by rw [hsl, hx']; exact hrun)) ?_
    exact ⟨_, _, _, rd, _, hk, rfl, j1, k2.trans (Mono.push _ _ _ _ _ _), fun n => (k3 n).push (fun g' hg => .inr (hb' g' hg)), j2⟩
  split at hk
  · exact fromNil hvs.nils_inv hk
  · exact fromNil hvs.nl_inv hk
  · rename_i r'
    split at hk
    · rename_i el' sz'' n f hs
      obtain ⟨hc1, hk2⟩ := br_none hk
      clear hk
      obtain ⟨hb, hk⟩ := br_none hk2
      clear hk2
      simp only [Bool.and_eq_true, beq_iff_eq] at hc1
      obtain ⟨⟨rfl, rfl⟩, _⟩ := hc1
      simp only [decide_eq_true_eq] at hb
      obtain ⟨hT, A0, n0, c0, hsl⟩ := hvs.ow_inv
      have hrow := (hI.obj _ _ hs).2
      obtain ⟨v', w', hrun, hres⟩ := run_appendX he hI hrow hT hsrc (c := cc) hb o.type
      have hrl : r' < st.length := (List.getElem?_eq_some_iff.1 hs).1
      have hne : r' ≠ id := fun e => by
        subst e
        rcases hf with hf | hf
        · omega
        · rw [hs] at hf; cases hf
      have hff := hf.setO (o := .gone) hrl hne
      have lvr : live st r' := live_of hs rfl
      have lvs : ∀ r1, live (setO st r' .gone) r1 → r1 ≠ r' ∧ live st r1 := fun r1 h1 => by
        rcases live_setO (by omega) h1 with ⟨_, e⟩ | ⟨e1, e2⟩
        · cases e
        · exact ⟨e1, e2⟩
      have fin : ∀ (hst : St P G (setO st r' .gone) w') (hm : Mono G w G w') (hfr : ∀ n, Fr n G w G w'), (n + m = 0 ∧ ∃ A', v' = .slice A' 0 0) ∨ (∃ g' cap cur, v' = .slice (some ⟨g', 0, none⟩) (n + m) cap ∧ w'.heap[g']? = some (.cells cur el' (0, 0)) ∧ n + m ≤ cap ∧ cap ≤ maxLen ∧ cur.size = cap * sz'' ∧
          (∀ i, i < n + m → RepCs G.S w (appF n f g i) ((cur.toList.drop (i * sz'')).take sz'')) ∧ (∀ o, ¬ G.S g' o) ∧ (∀ r, live (setO st r' .gone) r → ¬ G.R r g') ∧ ((∃ r0, G.R r0 g') ∨ w.heap.size ≤ g')) → o.wp P a w (OpX P G st w K r o a) Q := by
        intro hst hm hfr hnew
        obtain ⟨b, hb', j1, j2⟩ := hst.grownRow (f := appF n f g) (fun g' => (∃ r0, G.R r0 g') ∨ w.heap.size ≤ g') hff hinfo (by
          rcases hnew with h | ⟨g', cap, cur, h1, h2, h3, h4, h5, h6, h7, h8, h9⟩
          · exact .inl h
          · exact .inr ⟨g', cap, cur, h1, h2, h3, h4, h5, fun i hi => (h6 i hi).mono hm.gro, h7, h8, h9⟩)
        refine wp_val (execOp_append ho hc ha ht (v' := v') (w' := w') (by rw [hx']; exact hrun)) ?_
        exact ⟨_, _, _, _, _, hk, rfl, j1, hm.trans (Mono.push _ _ _ _ _ _), fun n => (hfr n).push hb', j2⟩
      have still : w.grownBy w' none → St P G (setO st r' .gone) w' ∧ Mono G w G w' ∧ ∀ n, Fr n G w G w' := fun hgr => by
        have hbel : Below w.heap.size w w' := ⟨hgr.os, hgr.tape, hgr.output, hgr.size, fun k hk => hgr.block k hk (by simp)⟩
        obtain ⟨k1, k2, k3⟩ := hI.grow hbel (S' := G.S) (fun _ _ h => h) (fun _ _ h => .inl h) (fun b o h => Nat.lt_of_lt_of_le (hI.slt b o h) hbel.size)
        exact ⟨k1.gone hs rfl, k2, k3⟩
      rcases hres with ⟨h0, h1, hgr⟩ | ⟨g', cap, cur, h1, h2, h3, h4, h5, h6, ⟨hR, hS, hgr⟩ | ⟨hg, hgr⟩⟩
      · obtain ⟨s1, s2, s3⟩ := still hgr
        exact fin s1 s2 s3 (.inl ⟨h0, h1⟩)
      · have hS := hS rfl
        obtain ⟨s1, s2, s3⟩ := hI.write (o' := .gone) (w' := w') hs rfl hR hS hgr.os hgr.tape hgr.output hgr.size (fun k hk hne => hgr.block k hk (fun e => hne (by injection e))) (fun _ => trivial)
        exact fin s1 s2 s3 (.inr ⟨g', cap, cur, h1, h2, h3, h4, h5, h6, hS, (fun r1 hl1 hr1 => (lvs r1 hl1).1 (hI.rinj _ _ _ (lvs r1 hl1).2 lvr hr1 hR)), .inl ⟨r', hR⟩⟩)
      · obtain ⟨s1, s2, s3⟩ := still hgr
        exact fin s1 s2 s3 (.inr ⟨g', cap, cur, h1, h2, h3, h4, h5, h6, (fun o hs => by have := hI.slt _ _ hs; omega), (fun r1 _ hr1 => by have := hI.rold _ _ hr1; omega), .inr (by omega)⟩)
    · cases hk
  · cases hk

/-! ### clearing -/
theorem zeroCells_part {z : Array Value} {sz n i : Nat} (hz : z.size = sz) (hi : i < n) : ((Builtin.zeroCells z n).toList.drop (i * sz)).take sz = z.toList := by
  have hpl : (i + 1) * sz ≤ n * sz := Nat.mul_le_mul_right _ hi
  rw [Nat.succ_mul] at hpl
  apply List.ext_getElem?
  intro j
  rw [List.getElem?_take]
  split
  · rename_i hj
    rw [List.getElem?_drop]
    simp only [Builtin.zeroCells, Array.toList_map, List.getElem?_map, Array.toList_range]
    rw [List.getElem?_range (by rw [hz]; omega)]
    simp only [Option.map_some]
    rw [hz, Nat.add_comm, Nat.add_mul_mod_self_right, Nat.mod_eq_of_lt hj]
    rw [Array.getElem?_toList, Array.getElem?_eq_getElem (by omega)]
    simp [getElem!_pos, hz, hj]
  · rename_i hj
    rw [List.getElem?_eq_none (by simp; omega)]
theorem opx_clear {c : Call} {x : Operand} {t el sz by_ r' lo n m : Nat} {own : Option Nat} {z : List HV} {f : Nat → List HV} {rd : List Nat} (ho : o.op = .call c) (hc : c.callee = .builtin .clear) (ha : c.args.toList = [x]) (ht : c.argTypes.toList = [t]) (he : elemT P t = some (el, sz, z, by_)) (hI : St P G st w) (hv : RepX G w (.arr r' sz lo n) (a.eval x)) {sz0 : Nat} (hs : st[r']? = some (.row true own sz0 m f))
    (hk : K .undef [(r', .row true own sz m (clrF f lo n z))] rd = some r) : o.wp P a w (OpX P G st w K r o a) Q := by
  have e1 : c.args = #[x] := by apply Array.toList_inj.1; simpa using ha
  have e2 : c.argTypes = #[t] := by apply Array.toList_inj.1; simpa using ht
  obtain ⟨i, vz, hu, hi, hz, hzc, rfl, rfl, hzl, hs0, hb0⟩ := elemT_inv he
  have hzs := elemT_zero hzc hzl
  obtain ⟨A, cc, m', hx, hL, hlo, hcc, hA⟩ := hv.arr_inv
  have hob := hI.obj _ _ hs
  obtain ⟨rfl, rfl⟩ := hI.lfun _ _ _ _ _ hL hob.1
  have skip : ∀ {w' : World}, (Builtin.clear_ #[t] o.type #[.slice A n cc]).run P w = .ok (.tuple #[]) w' → (execOp a.eval o).run P w = .ok (.value (.tuple #[])) w' := by
    intro w' h
    simp [execOp, ho, resolve, hc, invoke, builtin, e1, e2, hx, h]
  rcases Nat.eq_zero_or_pos n with h0 | h0
  · subst h0
    have hcl : clrF f lo 0 z = f := by funext j; unfold clrF; rw [decide_eq_false (by omega)]; rfl
    rw [hcl] at hk
    have hset : setO st r' (.row true own i.size m' f) = st := by
      have hrl : r' < st.length := (List.getElem?_eq_some_iff.1 hs).1
      rw [setO_set hrl]; exact set_same hs
    refine wp_val (w' := w) (v := .tuple #[]) (skip (by cases A <;> simp [Builtin.clear_, run_underlying hu])) ?_
    exact ⟨_, _, _, rd, G, hk, rfl, by show St P G (setO st r' _) w; rw [hset]; exact hI, Mono.refl _ _, fun k => Fr.refl _ _ _, .undef _⟩
  · obtain ⟨g, hR, rfl⟩ := hA h0
    obtain ⟨g', t', cells, hR', hh, hle, hels⟩ := hob.elem (i := 0) (by omega)
    obtain rfl := hI.rfun _ _ _ hR hR'
    have hsum : (lo + n) * i.size ≤ m' * i.size := Nat.mul_le_mul_right _ hlo
    rw [Nat.add_mul] at hsum
    have hz2 : (Builtin.zeroCells vz.cells n).size = n * i.size := by rw [size_zeroCells, hzs]
    have hzl' : (Builtin.zeroCells vz.cells n).toList.length = n * i.size := by rw [Array.length_toList, hz2]
    have hst := run_storeCells_at (P := P) g (lo * i.size) t' (Builtin.zeroCells vz.cells n).toList 0 cells w hh (by omega) (fun u hu' => by
      simp only [Builtin.zeroCells, Array.toList_map, List.mem_map, Array.toList_range, List.mem_range] at hu'
      obtain ⟨p, hp, rfl⟩ := hu'
      have hlt : p % vz.cells.size < vz.cells.size := Nat.mod_lt _ (by omega)
      have hgp := getElem!_pos vz.cells (p % vz.cells.size) hlt
      rw [hgp]
      exact (zeroV_rep (S := G.S) (w := w) hzc).one _ (by simp))
    obtain ⟨new, hnew⟩ : ∃ new, new = (cells.toList.take (lo * i.size) ++ (Builtin.zeroCells vz.cells n).toList ++ cells.toList.drop (lo * i.size + n * i.size)).toArray := ⟨_, rfl⟩
    simp only [Nat.add_zero, hzl'] at hst
    rw [← hnew] at hst
    have hnl : new.size = cells.size := by rw [hnew]; simp only [List.size_toArray, List.length_append, List.length_take, List.length_drop, Array.length_toList, hz2]; omega
    have key := hI.writeRow (f' := clrF f lo n z) hs hR hh new hnl (by omega) (fun mo => ⟨fun j hj => ?_, hels.2.1, fun e => by cases e⟩)
    · refine wp_val (w' := w.setRow g new) (v := .tuple #[]) (skip ?_) ?_
      · cases n with
        | zero => omega
        | succ n => simp [Builtin.clear_, run_underlying hu, zeroValue, typeInfo, hi, hz, hst]
      · exact ⟨_, _, _, rd, G, hk, rfl, key.1, key.2.1, key.2.2, .undef _⟩
    · have hjm : (j + 1) * i.size ≤ m' * i.size := Nat.mul_le_mul_right _ hj
      rw [Nat.add_mul, Nat.one_mul] at hjm
      unfold clrF
      by_cases hin : lo ≤ j ∧ j < lo + n
      · rw [decide_eq_true hin, cond_true]
        have e : (new.toList.drop (j * i.size)).take i.size = ((Builtin.zeroCells vz.cells n).toList.drop ((j - lo) * i.size)).take i.size := by
          have hsub : (j - lo) * i.size = j * i.size - lo * i.size := Nat.sub_mul _ _ _
          have hge : lo * i.size ≤ j * i.size := Nat.mul_le_mul_right _ hin.1
          have hlt : (j - lo + 1) * i.size ≤ n * i.size := Nat.mul_le_mul_right _ (by omega)
          rw [Nat.add_mul, Nat.one_mul] at hlt
          rw [hnew]
          apply List.ext_getElem?
          intro p
          simp only [List.getElem?_append, List.getElem?_take, List.getElem?_drop, List.length_append, List.length_take, Array.length_toList, hz2]
          by_cases hp : p < i.size
          · simp only [hp, if_true]
            rw [if_pos (by omega), if_neg (by omega)]
            congr 1; omega
          · simp [hp]
        rw [e, zeroCells_part hzs (by omega)]
        exact zeroV_rep hzc
      · rw [decide_eq_false hin, cond_false]
        have hord : (j + 1) * i.size ≤ lo * i.size ∨ (lo + n) * i.size ≤ j * i.size := by
          rcases Nat.lt_or_ge j lo with h | h
          · exact .inl (Nat.mul_le_mul_right _ h)
          · exact .inr (Nat.mul_le_mul_right _ (by omega))
        rw [Nat.add_mul, Nat.one_mul, Nat.add_mul] at hord
        have e : (new.toList.drop (j * i.size)).take i.size = (cells.toList.drop (j * i.size)).take i.size := by
          rw [hnew]
          apply List.ext_getElem?
          intro p
          simp only [List.getElem?_append, List.getElem?_take, List.getElem?_drop, List.length_append, List.length_take, Array.length_toList, hz2]
          by_cases hp : p < i.size
          · simp only [hp, if_true]
            repeat' split
            all_goals first | rfl | omega | (congr 1; omega) | skip
          · simp [hp]
        rw [e]
        exact (hels.1 j hj).mono mo.gro
end
end Go.Eng
end

section
namespace Go.Eng
open Go.RowKit
set_option linter.unusedVariables false
set_option linter.unusedSimpArgs false

section
variable {β : Type} {P : Program} {G : Gx} {st : List Ob} {w : World} {K : KO β} {r : β} {o : Oper} {a : Act} {Q : Exit → Act → World → Prop} {e : List HV}

theorem run_buildSlice {t len el sz by_ : Nat} {z : List HV} {parts : Array (Nat × Operand)} (ho : o.op = .buildSlice t len parts) (he : elemT P t = some (el, sz, z, by_)) (hlen : len * sz ≤ 16777216) (hidx : parts.toList.map (·.1) = List.range len) (hvsz : ∀ v ∈ parts.toList.map (fun p => a.eval p.2), v.cells.size = sz) :
    ∃ cells' : Array Value, cells'.toList = (parts.toList.map fun p => a.eval p.2).flatMap (·.cells.toList) ∧ (execOp a.eval o).run P w = .ok (.value (.slice (some ⟨w.heap.size, 0, none⟩) len len)) (w.alloc (.cells cells' el)) := by
  obtain ⟨i, vz, hu, hi, hz, hzc, h5, h6, hzl, hs0, hb0⟩ := elemT_inv he
  obtain ⟨vals, hvals⟩ : ∃ vals, vals = parts.toList.map fun p => a.eval p.2 := ⟨_, rfl⟩
  rw [← hvals] at hvsz ⊢
  have hpl : parts.toList.length = len := by have := congrArg List.length hidx; simpa using this
  have hvl : vals.length = len := by rw [hvals, List.length_map, hpl]
  obtain ⟨cells', hfill, hcells⟩ := fill_row sz vals 0 ((Array.range (len * sz)).map ((if len * sz = 0 then #[] else vz.cells)[· % (if len * sz = 0 then #[] else vz.cells).size]!)) hvsz (by simp [hvl])
  have hcells' : cells'.toList = vals.flatMap (·.cells.toList) := by
    rw [hcells, Nat.zero_mul, List.take_zero, List.nil_append, List.drop_of_length_le (by simp [hvl]), List.append_nil]
  have hzip : (parts.map fun p => (p.1, a.eval p.2)).toList = (List.range' 0 vals.length).zip vals := by
    rw [← List.range_eq_range', hvl, ← hidx, hvals, Array.toList_map]
    simp [List.zip_map', List.map_map, Function.comp_def]
  refine ⟨cells', hcells', ?_⟩
  have hbs : (Instr.buildSlice t len (parts.map fun p => (p.1, a.eval p.2))).run P w = .ok (.slice (some ⟨w.heap.size, 0, none⟩) len len) (w.alloc (.cells cells' el)) := by
    unfold Instr.buildSlice
    simp only [Sem.run_bind, run_underlying hu, Result.andThen_ok, sizeOf, typeInfo, run_program, hi, Sem.run_pure, h5]
    rw [if_neg (by omega)]
    simp only [Sem.run_bind, Sem.run_ite, zeroValue, typeInfo, run_program, Result.andThen_ok, hi, Sem.run_pure, hz]
    rw [hzip]
    by_cases h0 : len * sz = 0
    · simp only [h0, if_true, Result.andThen_ok] at hfill ⊢
      rw [hfill]
      simp [newRow]
    · simp only [h0, if_false, Result.andThen_ok] at hfill ⊢
      rw [hfill]
      simp [newRow]
  simp only [execOp, ho, Sem.run_bind]
  rw [show (fun x : Nat × Operand => match x with | (i, x) => (i, a.eval x)) = (fun p => (p.1, a.eval p.2)) from by funext x; cases x; rfl, hbs]
  rfl

theorem closeKs_sound (d : Nat) : ∀ {hs : List HV} {K : List HV → Wr → Option β} {vs : List Value} {G : Gx} {st1 : List Ob}, St P G st1 w → Sim st st1 → RepXt G w hs vs → closeKs (closeK st d) hs K = some r →
    ∃ cs W G', K cs W = some r ∧ St P G' (appl st1 W) w ∧ Sim st (appl st1 W) ∧ Mono G w G' w ∧ (∀ n, Fr n G w G' w) ∧ RepTs G'.S w cs vs := by
  intro hs'
  induction hs' with
  | nil => intro K vs G st1 hI hs hv hk; cases hv; exact ⟨[], [], G, hk, hI, hs, Mono.refl _ _, fun n => Fr.refl _ _ _, .nil⟩
  | cons x xs ih2 =>
    intro K vs G st1 hI hs hv hk
    cases hv with | cons _ v _ vs h hvs =>
    obtain ⟨c, W, G1, k1, k2, k3, k4, k5, k6⟩ := closeK_sound d hI hs h hk
    obtain ⟨cs, W', G2, j1, j2, j3, j4, j5, j6⟩ := ih2 k2 k3 (hvs.mono k4) k1
    exact ⟨c :: cs, W ++ W', G2, j1, by rw [appl_append]; exact j2, by rw [appl_append]; exact j3, k4.trans j4, fun n => (k5 n).trans (j5 n), .cons _ _ _ _ (k6.mono j4.gro) j6⟩

theorem Sim.fresh {st st1 : List Ob} (h : Sim st st1) {id : Nat} (hf : Fresh st id) : Fresh st1 id := hf.imp (fun e => by rw [h.1, e]) (h.2.2 _)

theorem opx_buildSlice {t len el sz by_ id : Nat} {parts : Array (Nat × Operand)} {z : List HV} {cs : List HV} {W : Wr} {G1 : Gx} {rd : List Nat} (ho : o.op = .buildSlice t len parts) (he : elemT P t = some (el, sz, z, by_)) (hI : St P G1 (appl st W) w) (hm : Mono G w G1 w) (hfr : ∀ n, Fr n G w G1 w) (hf : Fresh (appl st W) id)
    (hcs : RepTs G1.S w cs (parts.toList.map fun p => a.eval p.2)) (hc : (decide (len * sz ≤ 16777216) && decide (parts.toList.map (·.1) = List.range len) && cs.all (fun v => (cellsH v).length == sz)) = true)
    (hk : K (.ow id) (W ++ [(id, .row true (some el) sz len (nthC (cs.map cellsH) z))]) rd = some r) : o.wp P a w (OpX P G st w K r o a) Q := by
  simp only [Bool.and_eq_true, decide_eq_true_eq, List.all_eq_true, beq_iff_eq] at hc
  obtain ⟨⟨hlen, hidx⟩, hall⟩ := hc
  obtain ⟨i, vz, hu, hi, hz, hzc, h5, h6, hzl, hs0, hb0⟩ := elemT_inv he
  have hinfo := (elemT_info he).2
  have hpl : parts.toList.length = len := by have := congrArg List.length hidx; simpa using this
  have hvl : (parts.toList.map fun p => a.eval p.2).length = len := by rw [List.length_map, hpl]
  have hcl : cs.length = len := by rw [← hcs.length, hvl]
  have hvsz : ∀ v ∈ parts.toList.map (fun p => a.eval p.2), v.cells.size = sz := by
    intro v hvm
    obtain ⟨p, hp, rfl⟩ := List.mem_iff_getElem.1 hvm
    obtain ⟨u, hu', hr⟩ := hcs.at (List.getElem?_eq_getElem (show p < cs.length by omega))
    rw [List.getElem?_eq_getElem hp] at hu'
    injection hu' with hu'
    subst hu'
    have h1 := hr.cells.length
    rw [hall _ (List.getElem_mem _)] at h1
    simpa using h1
  obtain ⟨cells', hcells', hrun⟩ := run_buildSlice (w := w) ho he hlen hidx hvsz
  obtain ⟨vals, hvals⟩ : ∃ vals, vals = parts.toList.map fun p => a.eval p.2 := ⟨_, rfl⟩
  rw [← hvals] at hcells' hvsz hcs hvl
  have hflat : cells'.toList = flat len (fun i => (vals.getD i Go.undef).cells.toList) := by rw [hcells', flat_of_list, hvl]
  have hcl3 : ∀ p, p < len → ((fun i => (vals.getD i Go.undef).cells.toList) p).length = sz := fun p hp => by
    have := hvsz vals[p] (List.getElem_mem (by omega))
    simpa [List.getD_eq_getElem?_getD, List.getElem?_eq_getElem (show p < vals.length by omega)] using this
  have hcsz : cells'.size = len * sz := by
    have : cells'.toList.length = len * sz := by rw [hflat, flat_length hcl3]
    simpa using this
  have hml : len ≤ maxLen := by
    have := Nat.le_mul_of_pos_right len hs0
    simp only [maxLen]; omega
  have key := hI.alloc (ob := .cells cells' el) (o' := .row true (some el) sz len (nthC (cs.map cellsH) z)) (v := some (.slice (some ⟨w.heap.size, 0, none⟩) len len)) (l := some (sz, len)) hf (fun m => ⟨.inr ⟨rfl, rfl⟩, hinfo, _, .inr ⟨rfl, rfl⟩, .inr ⟨w.heap.size, len, cells', rfl, .inr ⟨rfl, rfl⟩, heap_alloc_new w _, Nat.le_refl _, hml, hcsz, fun p hp => ?_, fun _ o hs => Nat.lt_irrefl _ (hI.slt _ _ hs), fun e => by cases e⟩⟩) rfl
  · refine wp_val hrun ?_
    exact ⟨_, _, _, _, _, hk, rfl, by rw [appl_append]; exact key.1, hm.trans key.2.1, fun n => (hfr n).trans (key.2.2 n), .ow _ _ _ _ (.inr ⟨rfl, rfl⟩)⟩
  · rw [hflat, flat_part hcl3 hp]
    obtain ⟨u, hu', hr⟩ := hcs.at (List.getElem?_eq_getElem (show p < cs.length by omega))
    have := (hr.mono m.gro).cells
    simpa [nthC, List.getD_eq_getElem?_getD, List.getElem?_eq_getElem (show p < cs.length by omega), hu'] using this

/-! ### calls -/
theorem wp_call {c : Call} {f : Operand} {g : Nat} {us : List Value} (ho : o.op = .call c) (hc : c.callee = .value f) (hg : okFn P g = true) (hf : a.eval f = .func (.func g) #[] us.toArray) {X : Act → World → Prop}
    (h : Calls P g (c.args.toList.map a.eval ++ us).toArray w fun en w' => ∃ v, en = .returned v ∧ X (a.put o.dst v) w') : o.wp P a w X Q := by
  unfold okFn at hg
  split at hg
  rotate_left
  · cases hg
  rename_i fn hfn
  simp only [Bool.and_eq_true, Bool.not_eq_true', beq_eq_false_iff_ne, ne_eq] at hg
  obtain ⟨hb, hnm⟩ := hg
  have hrun : (execOp a.eval o).run P w = .ok (.enter g (c.args.toList.map a.eval ++ us).toArray) w := by
    have e : c.args.map a.eval ++ us.toArray = (c.args.toList.map a.eval ++ us).toArray := by apply Array.toList_inj.1; simp
    rw [← e]
    have key : ∀ args : Array Value, (callFunc g args).run P w = .ok (.enter g args) w := by
      intro args
      have h2 : fn.body ≠ none := by cases hbb : fn.body <;> simp_all
      simp [callFunc, hfn, hnm, h2, Sem.run]
    have hr : (resolve a.eval c o.type).run P w = .ok { target := .fn (.func g) us.toArray, args := #[] ++ c.args.map a.eval } w := by
      simp [resolve, hc, hf, Deferred.ofValue]
    simp only [execOp, ho, Sem.run_bind, hr, Result.andThen_ok, invoke, key, Array.empty_append]
  unfold Oper.wp
  rw [hrun, Oper.upon_enter]
  refine Calls.mono h ?_
  rintro e w' ⟨v, rfl, hX⟩
  exact hX

theorem nz_repX {t : TypeId} {h : HV} {v : Value} (k : RepX G w h v) : RepX G w (nz P t h) v := by
  unfold nz
  split
  · split
    · cases k.nils_inv; exact .cl _ _ (.lst _ 0 _ none 0 (fun _ => []) (fun i hi => by omega) (fun i hi => by omega) (fun i hi => by omega) (Nat.le_refl _))
    · exact k
  · exact k
theorem nzs_repX : ∀ {ts : List TypeId} {hs : List HV} {vs : List Value}, RepXt G w hs vs → RepXt G w (nzs P ts hs) vs
  | [], _, _, h => by cases h <;> simp only [nzs] <;> first | exact .nil | (constructor <;> assumption)
  | t :: ts, [], _, h => by cases h; exact .nil
  | t :: ts, x :: xs, _, h => by cases h with | cons _ v _ vs h hs => exact .cons _ _ _ _ (nz_repX h) (nzs_repX hs)
theorem RepR.repX {S : Nat → Nat → Prop} {X : Gx} {w : World} {h : HV} {v : Value} (hS : X.S = S) (k : RepR S w h v) : RepX X w h v := by
  subst hS
  cases h <;> first
    | exact .cl _ _ k
    | (obtain ⟨us, rfl, h2⟩ := k; exact .tup _ _ (.ofT h2))

theorem opx_pure_call {call : Nat → List HV → Option HV} (hC : CallOk P call) {c : Call} {f : Operand} {g : Nat} {caps : List HV} {hs : List HV} (ho : o.op = .call c) (hc : c.callee = .value f) (hg : okFn P g = true) (hI : St P G st w) (hf : RepX G w (.fn g caps) (a.eval f)) (hv : RepXt G w hs (c.args.toList.map a.eval)) (hcl : (hs ++ caps).all (cloD 5) = true)
    (hk : typed P o.type (call g (nzs P (paramsT P g) hs ++ caps)) (fun r => K r [] []) = some r) : o.wp P a w (OpX P G st w K r o a) Q := by
  obtain ⟨us, hfe, hfr⟩ := hf.fn_inv
  obtain ⟨rv, hcall, hk2⟩ := typed_eq hk
  rw [List.all_append, Bool.and_eq_true] at hcl
  have hargs : RepTs G.S w (nzs P (paramsT P g) hs ++ caps) (c.args.toList.map a.eval ++ us) := (nzs_rep (RepTs.of_cloD hcl.1 hv)).append (RepTs.of_cloD hcl.2 hfr.t)
  refine wp_call ho hc hg hfe (Calls.mono (hC g _ rv hcall G.S w _ hI.slt hargs) ?_)
  rintro en w' ⟨v, S', rfl, hbel, hs1, hs2, hs3, hrep⟩
  obtain ⟨k1, k2, k3⟩ := hI.grow hbel (S' := S') hs1 hs2 hs3
  exact ⟨v, rfl, rv, v, [], [], _, hk2, rfl, k1, k2, k3, hrep.repX rfl⟩

/-! ### a look at things as they are -/
theorem gro_all (hI : St P G st w) : Gro G.S w (AllS w) w := ⟨fun b o h => hI.slt b o h, fun _ _ _ => rfl⟩
theorem snapK_sound (hI : St P G st w) (d : Nat) : ∀ {h : HV} {K : HV → List Nat → Option β} {v : Value}, RepX G w h v → snapK st d h K = some r → ∃ c rd, K c rd = some r ∧ RepC (AllS w) w c v := by
  induction d with
  | zero => intro h K v _ hk; cases hk
  | succ d ih =>
    intro h K v hv hk
    have lst : ∀ {hs : List HV} {vs : List Value} {K : List HV → List Nat → Option β}, RepXs G w hs vs → snapKs (snapK st d) hs K = some r → ∃ cs rd, K cs rd = some r ∧ RepCs (AllS w) w cs vs := by
      intro hs
      induction hs with
      | nil => intro vs K hv hk; cases hv; exact ⟨[], [], hk, .nil⟩
      | cons x xs ih2 =>
        intro vs K hv hk
        cases hv with | cons _ v _ vs h h1 hvs =>
        obtain ⟨c, rd, k1, k2⟩ := ih h hk
        obtain ⟨cs, rd', j1, j2⟩ := ih2 hvs k1
        exact ⟨c :: cs, rd ++ rd', j1, .cons _ _ _ _ k2 h1 j2⟩
    have rows : ∀ {id : Nat} {m : Bool} {own : Option Nat} {sz n : Nat} {f : Nat → List HV}, st[id]? = some (.row m own sz n f) → ∀ (A : Option Addr) (lo k c : Nat), lo + k ≤ n → k ≤ c → (0 < k → ∃ g, G.R id g ∧ A = some ⟨g, lo * sz, none⟩) → RepC (AllS w) w (.lst sz k (fun i => f (lo + i))) (.slice A k c) := by
      intro id m own sz n f hs A lo k c hlo hc hA
      rcases Nat.eq_zero_or_pos k with hk | hk
      · subst hk; exact .lst sz 0 _ A c (fun _ => []) (fun i hi => by omega) (fun i hi => by omega) (fun i hi => by omega) (by omega)
      · obtain ⟨g, hg, rfl⟩ := hA hk
        obtain ⟨g2, t, cells, hR, hh, hsz, hels⟩ := (hI.obj _ _ hs).elem (i := lo) (by omega)
        obtain rfl := hI.rfun _ _ _ hg hR
        have hsrc := hels.src hh hsz hlo
        refine .lst sz k _ _ c _ (fun i hi => (hsrc.rep i hi).mono (gro_all hI)) hsrc.len (fun i hi j u hj => ?_) hc
        obtain ⟨ad, e, hcell⟩ := hsrc.at_ i hi j u hj
        refine ⟨ad, e, hcell, ?_⟩
        have := cell_lt hcell
        rwa [add_block_] at this
    unfold snapK at hk
    split at hk
    · cases hv.nl_inv
      exact ⟨_, _, hk, .lst _ 0 _ none 0 (fun _ => []) (fun i hi => by omega) (fun i hi => by omega) (fun i hi => by omega) (Nat.le_refl _)⟩
    · rename_i r'
      split at hk
      · rename_i m own sz n f hs
        obtain ⟨hT, A, n', c, rfl⟩ := hv.ow_inv
        obtain ⟨A', c', hv', hc, hA⟩ := ow_slice hI hs rfl hT
        cases hv'
        have := rows hs A 0 n c (by omega) hc (fun h => by simpa using hA h)
        simp only [Nat.zero_add] at this
        exact ⟨_, _, hk, this⟩
      · cases hk
    · rename_i r' sz lo n
      split at hk
      · rename_i m own sz' n' f hs
        obtain ⟨A, c, n2, rfl, hL, hlo, hc, hA⟩ := hv.arr_inv
        obtain ⟨rfl, rfl⟩ := hI.lfun _ _ _ _ _ hL (hI.obj _ _ hs).1
        exact ⟨_, _, hk, rows hs A lo n c hlo hc hA⟩
      · cases hk
    · rename_i r' sz i off
      split at hk
      · rename_i m own sz' n' f hs
        obtain ⟨g, n2, hR, hL, hi, rfl⟩ := hv.elt_inv
        obtain ⟨rfl, rfl⟩ := hI.lfun _ _ _ _ _ hL (hI.obj _ _ hs).1
        obtain ⟨g2, t, cells, hR2, hh, hsz, hels⟩ := (hI.obj _ _ hs).elem hi
        obtain rfl := hI.rfun _ _ _ hR hR2
        refine ⟨_, _, hk, ?_⟩
        have := RepC.ptr (S := AllS w) (w := w) (f i) off ⟨g, i * sz, none⟩ _ ((hels.1 i hi).mono (gro_all hI)) (fun j u hj => by
          rw [List.getElem?_take] at hj
          split at hj
          · rw [List.getElem?_drop, Array.getElem?_toList] at hj
            have hc : w.cell? ((⟨g, i * sz, none⟩ : Addr).add (0 + j)) = some u := by rw [addr_add, cell_at_block hh, Nat.zero_add]; exact hj
            exact ⟨_, rfl, hc, hI.rold _ _ hR⟩
          · cases hj)
        rwa [addr_add] at this
      · cases hk
    · rename_i r' off
      split at hk
      · rename_i cs hs
        obtain ⟨g, hR, rfl⟩ := hv.var_inv
        obtain ⟨g2, t, cells, hR2, hh, hc, _⟩ := hI.obj _ _ hs
        obtain rfl := hI.rfun _ _ _ hR hR2
        obtain ⟨cs', rd, k1, k2⟩ := lst hc hk
        refine ⟨_, _, k1, ?_⟩
        have := RepC.ptr (S := AllS w) (w := w) cs' off ⟨g, 0, none⟩ _ k2 (fun j u hj => by
          have hc : w.cell? ((⟨g, 0, none⟩ : Addr).add (0 + j)) = some u := by rw [addr_add, cell_at_block hh]; simpa using hj
          exact ⟨_, rfl, hc, hI.rold _ _ hR⟩)
        rw [addr_add, Nat.zero_add] at this
        exact this
      · cases hk
    · obtain ⟨g, hR, rfl⟩ := hv.mp_inv
      exact ⟨_, _, hk, .any _ rfl⟩
    · rename_i f cs
      obtain ⟨vs, rfl, hvs⟩ := hv.fn_inv
      obtain ⟨cs', rd, k1, k2⟩ := lst hvs hk
      exact ⟨_, _, k1, .fn f cs' vs k2⟩
    · rename_i cs
      obtain ⟨vs, rfl, hvs⟩ := hv.agg_inv
      obtain ⟨cs', rd, k1, k2⟩ := lst hvs hk
      exact ⟨_, _, k1, .agg cs' vs k2⟩
    all_goals first | (cases hk; done) | skip
    rename_i n1 n2 n3 n4 n5 n6 n7 n8 n9 n10 n11
    refine ⟨_, _, hk, ?_⟩
    cases hv with
    | cl _ _ k => exact k.mono (gro_all hI)
    | undef => exact (n9 rfl).elim
    | nl sz z => exact (n1 _ _ rfl).elim
    | var r off g h => exact (n5 _ _ rfl).elim
    | elt r sz i off g n h hl hi => exact (n4 _ _ _ _ rfl).elim
    | arr r sz lo n A c m hl hn hc h => exact (n3 _ _ _ _ rfl).elim
    | ow r A n c h => exact (n2 _ rfl).elim
    | mp r g h => exact (n6 _ rfl).elim
    | fn f cs vs h => exact (n7 _ _ rfl).elim
    | agg cs cells h => exact (n8 _ rfl).elim
    | tup hs us h => exact (n11 _ rfl).elim
theorem snapKs_sound (hI : St P G st w) (d : Nat) : ∀ {hs : List HV} {vs : List Value} {K : List HV → List Nat → Option β}, RepXt G w hs vs → snapKs (snapK st d) hs K = some r → ∃ cs rd, K cs rd = some r ∧ RepTs (AllS w) w cs vs
  | [], vs, K, hv, hk => by cases hv; exact ⟨[], [], hk, .nil⟩
  | x :: xs, vs, K, hv, hk => by
    cases hv with | cons _ v _ vs h hvs =>
    obtain ⟨c, rd, k1, k2⟩ := snapK_sound hI d h hk
    obtain ⟨cs, rd', j1, j2⟩ := snapKs_sound hI d hvs k1
    exact ⟨c :: cs, rd ++ rd', j1, .cons _ _ _ _ k2 j2⟩

theorem scalar_rep {t : TypeId} {x : Option HV} {K : HV → Option β} (hs : scalarT P t = true) (hk : typed P t x K = some r) : ∃ v, x = some v ∧ K v = some r ∧ ∀ {S : Nat → Nat → Prop} {w' : World} {X : Gx} {u : Value}, RepR S w' v u → RepX X w' v u := by
  unfold scalarT at hs
  unfold typed at hk
  split at hs
  · rename_i hu
    rw [hu] at hk
    obtain ⟨b, h1, h2⟩ := bndB_eq hk
    exact ⟨_, h1, h2, fun {S w' X u} k => by have k : RepC S w' (.bool b) u := k; cases k; exact .cl _ _ (.bool _)⟩
  · rename_i kk hu
    rw [hu] at hk
    obtain ⟨b, h1, h2⟩ := bndI_eq hk
    exact ⟨_, h1, h2, fun {S w' X u} k => by have k : RepC S w' (.int kk b) u := k; cases k; exact .cl _ _ (.int _ _)⟩
  · rename_i hu
    rw [hu] at hk
    obtain ⟨b, h1, h2⟩ := bndS_eq hk
    exact ⟨_, h1, h2, fun {S w' X u} k => by have k : RepC S w' (.str b) u := k; cases k; exact .cl _ _ (.str _)⟩
  · cases hs
theorem opx_look_call {call : Nat → List HV → Option HV} (hC : CallOk P call) {c : Call} {f : Operand} {g : Nat} {caps : List HV} {hs : List HV} (ho : o.op = .call c) (hc : c.callee = .value f) (hg : okFn P g = true) (hI : St P G st w) (hf : RepX G w (.fn g caps) (a.eval f)) (hv : RepXt G w hs (c.args.toList.map a.eval)) (hsc : scalarT P o.type = true)
    (hk : (snapKs (snapK st 6) (hs ++ caps) fun as rd => typed P o.type (call g (nzs P (paramsT P g) as)) fun r => K r [] rd) = some r) : o.wp P a w (OpX P G st w K r o a) Q := by
  obtain ⟨us, hfe, hfr⟩ := hf.fn_inv
  obtain ⟨as, rd, k1, k2⟩ := snapKs_sound hI 6 (hv.append hfr.t) hk
  obtain ⟨rv, hcall, hk2, hrv⟩ := scalar_rep hsc k1
  refine wp_call ho hc hg hfe (Calls.mono (hC g _ rv hcall (AllS w) w _ (fun _ _ h => h) (nzs_rep k2)) ?_)
  rintro en w' ⟨v, S', rfl, hbel, _, _, _, hrep⟩
  obtain ⟨j1, j2, j3⟩ := hI.grow hbel (S' := G.S) (fun _ _ h => h) (fun _ _ h => .inl h) (fun b o h => Nat.lt_of_lt_of_le (hI.slt b o h) hbel.size)
  exact ⟨v, rfl, rv, v, [], rd, _, hk2, rfl, j1, j2, j3, hrv hrep⟩

theorem tellK_eq {α γ : Type} (f : α → γ) : ∀ (l : List α) (K : List γ → Option β), tellK f l K = K (l.map f)
  | [], K => rfl
  | h :: t, K => by simp only [tellK, tellK_eq f t, List.map_cons]
theorem eqB_eq {α : Type} {x y : α} (h : eqB x y = true) : x = y := by unfold eqB at h; exact @of_decide_eq_true _ (Classical.propDecidable _) h
theorem mergeS_len : ∀ (si so : List Ob) (i : Nat), (mergeS si so i).length = si.length
  | [], _, _ => rfl
  | o :: t, so, i => by simp only [mergeS, List.length_cons, mergeS_len t]

theorem opx_callK {C : Cfg2} (hCP : C.P = P) (hC : CallOkX P C.call2) {c : Call} {f : Operand} {g : Nat} {caps : List HV} {hs : List HV} {fr : Option Nat} (ho : o.op = .call c) (hc : c.callee = .value f) (hg : okFn P g = true) (hI : St P G st w) (hfr : ∀ id, fr = some id → st[id]? = some .free) (hf : RepX G w (.fn g caps) (a.eval f)) (hv : RepXt G w hs (c.args.toList.map a.eval))
    (hk : callK C fr g o.type (nzs C.P (paramsT C.P g) hs ++ caps) st K = some r) : o.wp P a w (OpX P G st w K r o a) Q := by
  subst hCP
  obtain ⟨us, hfe, hfr'⟩ := hf.fn_inv
  have hargs : RepXt G w (nzs C.P (paramsT C.P g) hs ++ caps) (c.args.toList.map a.eval ++ us) := (nzs_repX hv).append hfr'.t
  unfold callK at hk
  simp only [tellK_eq] at hk
  obtain ⟨hids, hk⟩ := br_none hk
  obtain ⟨rv, so, hcall, hk⟩ := bndX_eq hk
  have hn : ((reachL st 200 ((nzs C.P (paramsT C.P g) hs ++ caps).flatMap (refsD 5)) []).filter fun r => liveO st[r]?).Nodup := nodupB_iff.1 hids
  have hl : ∀ r ∈ (reachL st 200 ((nzs C.P (paramsT C.P g) hs ++ caps).flatMap (refsD 5)) []).filter fun r => liveO st[r]?, live st r := fun r hr => (List.mem_filter.1 hr).2
  generalize (reachL st 200 ((nzs C.P (paramsT C.P g) hs ++ caps).flatMap (refsD 5)) []).filter (fun r => liveO st[r]?) = ids at hids hcall hk hn hl
  have fin : ∀ nw, Room st ids nw so.length → ids.length ≤ so.length → ∀ hv' W rd, K hv' W rd = some r → W = numW ids nw so 0 → (∀ (G' : Gx) (w' : World) (v : Value), RepX G' w' (ren (backN ids nw) 5 rv) v → RepX G' w' hv' v) → o.wp C.P a w (OpX C.P G st w K r o a) Q := by
    intro nw hroom hmin hv' W rd hK hW hrep
    subst hW
    refine wp_call ho hc hg hfe (Calls.mono (call_inout hC hI hn hl hargs hcall hroom hmin) ?_)
    rintro en w' ⟨v, G', rfl, h1, h2, h3, h4⟩
    exact ⟨v, rfl, hv', v, _, rd, G', hK, rfl, h1, h2, h3, hrep _ _ _ h4⟩
  have hroom0 : Room st ids st.length so.length := .inl rfl
  split at hk
  · rename_i hmode
    obtain ⟨heq, hk⟩ := br_none hk
    have heq := eqB_eq heq
    have hlen : so.length = ids.length := by rw [heq, mergeS_len]; simp
    rw [← heq] at hk
    split at hk
    · rename_i hsc
      unfold scalarT at hsc
      have key : ∀ v, some rv = some v → (∀ d, Eng.ren (backN ids st.length) (d + 1) v = v) → ∀ rd, K v (numW ids st.length so 0) rd = some r → o.wp C.P a w (OpX C.P G st w K r o a) Q := by
        intro v hv' hren rd hK
        injection hv' with hv'
        subst hv'
        exact fin _ hroom0 (by omega) _ _ rd hK rfl (fun G' w' u h => by rw [hren 4] at h; exact h)
      unfold typed at hk
      split at hsc
      · rename_i hu; rw [hu] at hk; obtain ⟨b, h1, h2⟩ := bndB_eq hk; exact key _ h1 (fun _ => rfl) _ h2
      · rename_i kk hu; rw [hu] at hk; obtain ⟨b, h1, h2⟩ := bndI_eq hk; exact key _ h1 (fun _ => rfl) _ h2
      · rename_i hu; rw [hu] at hk; obtain ⟨b, h1, h2⟩ := bndS_eq hk; exact key _ h1 (fun _ => rfl) _ h2
      · cases hsc
    · obtain ⟨hr, hk2⟩ := br_none hk
      have hr := eqB_eq hr
      subst hr
      exact fin _ hroom0 (by omega) _ _ _ hk2 rfl (fun G' w' u h => h)
  · obtain ⟨hb, hk⟩ := br_none hk
    simp only [Bool.and_eq_true, decide_eq_true_eq] at hb
    refine fin (fr.getD st.length) ?_ hb.1 _ _ _ hk rfl (fun _ _ _ h => h)
    cases fr with
    | none => exact .inl rfl
    | some id => exact .inr ⟨hfr id rfl, by simpa using hb.2⟩
end
end Go.Eng
end
