/- A second interpreter over plain values, for code that writes memory: every operation. -/
import Derived.Test.YtokpjbddoppdpaaStoB
set_option linter.unusedVariables false
set_option linter.unusedSimpArgs false
set_option linter.unusedSectionVars false
section
namespace Go.Eng
open Go.RowKit
set_option linter.unusedVariables false
set_option linter.unusedSimpArgs false

/-- What a copy of a list is, told of all lists. -/
structure CloneEq (call2 : Nat → List HV → List Ob → Option (HV × List Ob)) (g el sz by_ : Nat) : Prop where
  lst : ∀ n f, n * by_ ≤ 140737488355328 → call2 g [.lst sz n f] [] = some (.ow 0, [.row true (some el) sz n f])
  arr : ∀ m own lo k n f, k * by_ ≤ 140737488355328 → call2 g [.arr 0 sz lo k] [.row m own sz n f] = some (.ow 1, [.row m own sz n f, .row true (some el) sz k (fun i => f (lo + i))])
  ow : ∀ m e n f, n * by_ ≤ 140737488355328 → call2 g [.ow 0] [.row m (some e) sz n f] = some (.ow 1, [.row m (some e) sz n f, .row true (some el) sz n f])
def MCloneOk (P : Program) (g : Nat) : Prop := ∀ (w : World) (k e b : Nat) (gg : ByteArray → Int) (cnt : Nat), MapAt P w k e b gg cnt → Calls P g #[.map (some b)] w fun en w' => ∃ b', en = .returned (.map (some b')) ∧ w.heap.size ≤ b' ∧ b' < w'.heap.size ∧ Below w.heap.size w w' ∧ MapAt P w' k e b' gg cnt
structure CfgOk (C : Cfg2) : Prop where
  call : CallOk C.P C.call
  call2 : CallOkX C.P C.call2
  clone : ∀ g el sz by_, C.mode g = .clone el sz by_ → ∃ call2, CallOkX C.P call2 ∧ CloneEq call2 g el sz by_
  mclone : ∀ g, C.mode g = .mclone → MCloneOk C.P g

section
variable {β : Type} {P : Program} {G : Gx} {st : List Ob} {w : World} {K : KO β} {r : β} {o : Oper} {a : Act} {Q : Exit → Act → World → Prop} {e : List HV}

theorem setO_same {st : List Ob} {i : Nat} {o : Ob} (h : st[i]? = some o) : setO st i o = st := by
  rw [setO_set (List.getElem?_eq_some_iff.1 h).1]; exact set_same h

theorem opx_clone {call2 : Nat → List HV → List Ob → Option (HV × List Ob)} (hC : CallOkX P call2) {c : Call} {f : Operand} {g el sz by_ id : Nat} (hcl : CloneEq call2 g el sz by_) (ho : o.op = .call c) (hc : c.callee = .value f) (hg : okFn P g = true) (hI : St P G st w) (hf : RepX G w (.fn g []) (a.eval f)) (hfr : Fresh st id) {hv : HV} (hv' : RepXt G w [hv] (c.args.toList.map a.eval)) {n : Nat} {ff : Nat → List HV} {rd : List Nat} (hn : n * by_ ≤ 140737488355328)
    (hcase : (hv = .lst sz n ff) ∨ (∃ r lo m own n' f', hv = .arr r sz lo n ∧ st[r]? = some (.row m own sz n' f') ∧ ff = fun i => f' (lo + i)) ∨ (∃ r m e, hv = .ow r ∧ st[r]? = some (.row m (some e) sz n ff)))
    (hk : K (.ow id) [(id, .row true (some el) sz n ff)] rd = some r) : o.wp P a w (OpX P G st w K r o a) Q := by
  obtain ⟨us, hfe, hfr'⟩ := hf.fn_inv
  cases hfr'
  have fin : ∀ (ids : List Nat) (rv : HV) (so : List Ob), ids.Nodup → (∀ r ∈ ids, live st r) → call2 g ([hv].map (ren (posOf ids) 5)) (ids.map fun r => renO (posOf ids) (st.getD r .gone)) = some (rv, so) → ids.length + 1 = so.length → appl st (numW ids id so 0) = setO st id (.row true (some el) sz n ff) → ren (backN ids id) 5 rv = .ow id → o.wp P a w (OpX P G st w K r o a) Q := by
    intro ids rv so hnd hl hcall hlen happ hren
    have hroom : Room st ids id so.length := by
      rcases hfr with e | e
      · exact .inl e
      · exact .inr ⟨e, by omega⟩
    refine wp_call (us := []) ho hc hg hfe (Calls.mono (call_inout hC hI hnd hl (by simpa using hv') hcall hroom (by omega)) ?_)
    rintro en w' ⟨v, G', rfl, h1, h2, h3, h4⟩
    rw [happ] at h1
    rw [hren] at h4
    exact ⟨v, rfl, _, v, [(id, _)], rd, G', hk, rfl, h1, h2, h3, h4⟩
  have one : ∀ (r' : Nat) (ob : Ob), st[r']? = some ob → liveO (some ob) = true → (∀ ρ, renO ρ ob = ob) → call2 g ([hv].map (ren (posOf [r']) 5)) [ob] = some (.ow 1, [ob, .row true (some el) sz n ff]) → o.wp P a w (OpX P G st w K r o a) Q := by
    intro r' ob hs hlv hro hcall
    refine fin [r'] (.ow 1) [ob, .row true (some el) sz n ff] (by simp) (fun x hx => by simp at hx; subst hx; exact live_of hs hlv) (by simpa [List.getD_eq_getElem?_getD, hs, hro] using hcall) rfl ?_ ?_
    · simp only [numW, backN_eq, appl, hro]
      have b0 : bk [r'] id 0 = r' := rfl
      have b1 : bk [r'] id (0 + 1) = id := rfl
      simp only [b0, b1]
      rw [setO_same hs]
      rfl
    · simp [ren, backN_eq, bk]
  rcases hcase with rfl | ⟨r', lo, m, own, n', f', rfl, hs, rfl⟩ | ⟨r', m, e', rfl, hs⟩
  · refine fin [] (.ow 0) [.row true (some el) sz n ff] (by simp) (fun x hx => by simp at hx) (by simpa [ren] using hcl.lst n ff hn) rfl ?_ ?_
    · simp only [numW, backN_eq, appl]
      have b0 : bk [] id 0 = id := rfl
      simp only [b0]
      rfl
    · simp [ren, backN_eq, bk]
  · exact one r' _ hs rfl (fun _ => rfl) (by simpa [ren, posOf] using hcl.arr m own lo n n' f' hn)
  · exact one r' _ hs rfl (fun _ => rfl) (by simpa [ren, posOf] using hcl.ow m e' n ff hn)

theorem opx_mclone {c : Call} {f : Operand} {g id r' k el cnt : Nat} {gg : ByteArray → Int} {rd : List Nat} (hM : MCloneOk P g) (ho : o.op = .call c) (hc : c.callee = .value f) (hg : okFn P g = true) (hI : St P G st w) (hf : RepX G w (.fn g []) (a.eval f)) (hfr : Fresh st id) (hv' : RepXt G w [.mp r'] (c.args.toList.map a.eval)) (hs : st[r']? = some (.map k el gg cnt))
    (hk : K (.mp id) [(id, .map k el gg cnt)] rd = some r) : o.wp P a w (OpX P G st w K r o a) Q := by
  obtain ⟨us, hfe, hfr'⟩ := hf.fn_inv
  cases hfr'
  generalize hvs : c.args.toList.map a.eval = vs at hv'
  cases hv' with | cons _ v _ vs hv hvs' =>
  cases hvs'
  obtain ⟨b, hR, rfl⟩ := hv.mp_inv
  obtain ⟨b', hR', hm, _⟩ := hI.obj _ _ hs
  obtain rfl := hI.rfun _ _ _ hR hR'
  refine wp_call (us := []) ho hc hg hfe ?_
  rw [hvs, List.append_nil]
  refine Calls.mono (hM w k el b gg cnt hm) ?_
  rintro en w' ⟨b', rfl, hge, hlt, hbel, hm'⟩
  obtain ⟨k1, k2, k3⟩ := hI.grow hbel (S' := G.S) (fun _ _ h => h) (fun _ _ h => .inl h) (fun b o h => Nat.lt_of_lt_of_le (hI.slt b o h) hbel.size)
  have ro : RepO P (pushX G id (some b') none none) w' id (.map k el gg cnt) := ⟨b', .inr ⟨rfl, rfl⟩, hm', fun o hs => by have := hI.slt _ _ hs; omega⟩
  have k4 := k1.fill hfr (fun g hg => by injection hg with hg; subst hg; exact ⟨hlt, fun r _ hr => by have := hI.rold _ _ hr; omega⟩) ro rfl
  exact ⟨_, rfl, _, _, _, rd, _, hk, rfl, k4, k2.trans (Mono.push _ _ _ _ _ _), fun n => (k3 n).push (fun g hg => by injection hg with hg; subst hg; exact .inr hge), .mp _ _ (.inr ⟨rfl, rfl⟩)⟩

theorem evOp2_sound {C : Cfg2} (hC : CfgOk C) {fr : Option Nat} (hI : St C.P G st w) (hE : RepE2 G w e a) (hfr : ∀ id, fr = some id → st[id]? = some .free) (hk : evOp2 C o e st fr K = some r) : o.wp C.P a w (OpX C.P G st w K r o a) Q := by
  have hF : Fresh st (fr.getD st.length) := by
    cases fr with
    | none => exact .inl rfl
    | some id => exact .inr (hfr id rfl)
  have fallback : brs (o.op.operands.toList.all fun x => cloT (ev e x)) (evOp ⟨C.P, C.call⟩ true o e [] fun v _ _ => K v [] []) none = some r → o.wp C.P a w (OpX C.P G st w K r o a) Q := fun h => by
    obtain ⟨h1, h2⟩ := br_none h
    exact op_fall rfl hC.call hI hE h1 h2
  unfold evOp2 at hk
  simp only [evK_eq, evKs_eq, List.map_map] at hk
  cases ho : o.op with
  | move x =>
    simp only [ho] at hk
    exact opx_pure hI (by simp [execOp, ho]) hk (hE.ev x)
  | assign x =>
    simp only [ho] at hk
    have hx := hE.ev x
    cases hn : isNils (ev e x) with
    | false =>
      rw [hn] at hk
      exact opx_pure hI (by simp [execOp, ho]) hk hx
    | true =>
      rw [hn] at hk
      have hv : ev e x = .nils := by
        generalize ev e x = v at hn
        cases v <;> first | rfl | cases hn
      rw [hv] at hx
      simp only at hk
      split at hk
      · rename_i he
        exact opx_nil ho hI hF hx.nils_inv he hk
      · exact opx_pure hI (by simp [execOp, ho]) hk hx
  | pick c x y =>
    simp only [ho] at hk
    split at hk
    · rename_i t ht
      have hc := hE.ev c
      rw [ht] at hc
      have hc := hc.bool_inv
      rcases br_some hk with ⟨h1, h2⟩ | ⟨h1, h2⟩
      · subst h1; exact opx_pure hI (by simp [execOp, ho, hc]; rfl) h2 (hE.ev x)
      · subst h1; exact opx_pure hI (by simp [execOp, ho, hc]; rfl) h2 (hE.ev y)
    · cases hk
  | alloc t =>
    simp only [ho] at hk
    split at hk
    · rename_i z hz; exact opx_alloc ho hz hI hF hk
    · cases hk
  | box t x =>
    simp only [ho] at hk
    obtain ⟨h1, h2⟩ := br_none hk
    exact opx_box ho hI hF (hE.ev x) h1 h2
  | build t parts =>
    simp only [ho] at hk
    split at hk
    · rename_i z fs hz hu
      obtain ⟨h1, h2⟩ := br_none hk
      obtain ⟨h3, h4⟩ := br_none h2
      split at h4
      · rename_i cs hcs
        refine opx_build ho hz hu hI h1 (hs := parts.toList.map (ev e ∘ fun x => x.2)) ?_ h3 hcs h4
        have := evs_repX hE (parts.toList.map (·.2))
        simpa [List.map_map, Function.comp_def] using this
      · cases h4
    · cases hk
  | buildSlice t len parts =>
    simp only [ho] at hk
    split at hk
    · rename_i el sz z by_ he
      have hv := evs_repX hE (parts.toList.map (·.2))
      rw [List.map_map, List.map_map] at hv
      obtain ⟨cs, W, G1, k1, k2, k3, k4, k5, k6⟩ := closeKs_sound 4 hI (Sim.refl st) hv hk
      obtain ⟨h1, h2⟩ := br_none k1
      exact opx_buildSlice ho he k2 k4 k5 (k3.fresh hF) (by simpa [Function.comp_def] using k6) h1 h2
    · cases hk
  | load t x =>
    simp only [ho] at hk
    split at hk
    · rename_i r' off hx
      split at hk
      · rename_i cs hs
        exact opx_load_var ho hI (by rw [← hx]; exact hE.ev x) hs hk
      · cases hk
    · rename_i r' sz i off hx
      split at hk
      · rename_i m own sz' n f n0 hs ht
        exact opx_load_elt ho hI (by rw [← hx]; exact hE.ev x) hs hk (by rw [ht]; rfl)
      · cases hk
    · exact fallback (by rw [ho]; exact hk)
  | store t x y =>
    simp only [ho] at hk
    split at hk
    · rename_i r' off n hx hsz
      split at hk
      · rename_i cs hs
        obtain ⟨h1, h2⟩ := br_none hk
        simp only [Bool.and_eq_true, decide_eq_true_eq] at h1
        exact opx_store_var ho hI (by rw [← hx]; exact hE.ev x) (hE.ev y) hs hsz h1.1 h1.2.1 h1.2.2 h2
      · cases hk
    · rename_i r' sz i off n hx hsz
      exact opx_store_elt (n := n) (sz0 := sz) (K' := fun _ _ => none) ho hI (by rw [← hx]; exact hE.ev x) (hE.ev y) hsz hk
    · cases hk
  | nilCheck x =>
    simp only [ho] at hk
    split at hk
    · rename_i r' off hx
      have hv := hE.ev x
      rw [hx] at hv
      obtain ⟨g, _, he⟩ := hv.var_inv
      exact opx_pure hI (by simp [execOp, ho, he]) hk hv
    · rename_i r' sz i off hx
      have hv := hE.ev x
      rw [hx] at hv
      obtain ⟨g, _, _, _, _, he⟩ := hv.elt_inv
      exact opx_pure hI (by simp [execOp, ho, he]) hk hv
    · exact fallback (by rw [ho]; exact hk)
  | binOp op t x y yt =>
    simp only [ho] at hk
    split at hk
    · rename_i r' off hx hy
      have hv := hE.ev x
      rw [hx] at hv
      have hv2 := hE.ev y
      rw [hy] at hv2
      rw [hx, hy] at hk
      obtain ⟨g, _, he⟩ := hv.var_inv
      exact opx_nilp ho hI hv hv2 ⟨g, _, he⟩ hk
    · rename_i r' sz i off hx hy
      have hv := hE.ev x
      rw [hx] at hv
      have hv2 := hE.ev y
      rw [hy] at hv2
      rw [hx, hy] at hk
      obtain ⟨g, _, _, _, _, he⟩ := hv.elt_inv
      exact opx_nilp ho hI hv hv2 ⟨g, _, he⟩ hk
    · exact fallback (by rw [ho]; exact hk)
  | makeFunc fn first captured =>
    simp only [ho] at hk
    split at hk
    · rename_i f hf hfirst
      obtain ⟨h1, h2⟩ := br_none hk
      simp only [Bool.and_eq_true] at h1
      exact opx_makeFunc ho hfirst hI (evs_repX hE _) h1.1 h1.2 h2
    · cases hk
  | makeSlice t l c =>
    simp only [ho] at hk
    split at hk
    · rename_i el sz z by_ x y he hl hc
      exact opx_makeSlice ho he hI hF (by rw [← hl]; exact hE.ev l) (by rw [← hc]; exact hE.ev c) hk
    · cases hk
  | makeMap t res =>
    simp only [ho] at hk
    split at hk
    · rename_i k el hu
      split at hk
      · rename_i hk1 hel
        exact opx_makeMap ho hk1 hel hI hF hk
      · cases hk
    · cases hk
  | slice t x lo hi mx =>
    simp only [ho] at hk
    have szI : ∀ {el sz : Nat}, szT C.P el = some sz → (C.P.info? el).map (·.size) = some sz := fun {el sz} h => by
      unfold szT at h
      split at h
      · rename_i i hi; rw [hi]; simpa using h
      · cases h
    have empty : ∀ {m : Operand} {A : Option Addr} {n c : Nat}, mx = some m → a.eval x = .slice A n c → evOp2.empK C.P (fr.getD st.length) t lo hi m e K = some r → o.wp C.P a w (OpX C.P G st w K r o a) Q := by
      intro m A n c hmx hx h
      subst hmx
      unfold evOp2.empK at h
      split at h
      · rename_i el' sz z by_ he hhi hm
        have h1 := hE.ev m
        rw [hm] at h1
        have h1 := h1.int_inv
        have h2 : hi.map a.eval = some (.int .i64 0) := by
          cases hi with
          | none => cases hhi
          | some y =>
            simp only [Option.map_some, Option.some.injEq] at hhi
            have h3 := hE.ev y
            rw [hhi] at h3
            simp [h3.int_inv]
        exact opx_slice_emp ho he hI hF hx rfl h2 h1 h
      · cases h
    split at hk
    · rename_i r' sz b n el hx hu
      have hv := hE.ev x
      rw [hx] at hv
      split at hk
      · obtain ⟨h1, h2⟩ := br_none hk
        exact opx_slice_arr ho hu (szI (by simpa using h1)) hI hE hv h2
      · obtain ⟨A, c, m, he, _⟩ := hv.arr_inv
        exact empty rfl he hk
    · rename_i r' el hx hu
      have hv := hE.ev x
      rw [hx] at hv
      split at hk
      · split at hk
        · rename_i m own sz n f hs
          obtain ⟨h1, h2⟩ := br_none hk
          exact opx_slice_ow ho hu (szI (by simpa using h1)) hI hE hv hs h2
        · cases hk
      · obtain ⟨_, A, n, c, he⟩ := hv.ow_inv
        exact empty rfl he hk
    · rename_i sz n f el hx hu
      have hv := hE.ev x
      rw [hx] at hv
      split at hk
      · exact fallback (by rw [ho]; exact hk)
      · obtain ⟨A, c, cells, he, _⟩ := RepC.lst_inv hv.lst_inv
        exact empty rfl he hk
    · rename_i sz z el hx hu
      have hv := hE.ev x
      rw [hx] at hv
      split at hk
      · obtain ⟨h1, h2⟩ := br_none hk
        obtain ⟨sz', h1⟩ := Option.isSome_iff_exists.1 h1
        exact opx_slice_nl ho hu (szI h1) hI hE hv h2
      · exact empty rfl hv.nl_inv hk
    · exact fallback (by rw [ho]; exact hk)
  | fieldAddr t x i =>
    simp only [ho] at hk
    split at hk
    · rename_i r' off hx
      exact opx_field (r' := r') (off := off) (sz := 0) (j := 0) (.inl rfl) ho hI (by rw [← hx]; exact hE.ev x) hk
    · rename_i r' sz j off hx
      exact opx_field (r' := r') (off := off) (sz := sz) (j := j) (.inr rfl) ho hI (by rw [← hx]; exact hE.ev x) hk
    · exact fallback (by rw [ho]; exact hk)
  | indexAddr t x ix =>
    simp only [ho] at hk
    split at hk
    · rename_i r' sz lo n k i hx hix
      split at hk
      · rename_i el sz' z by_ he
        obtain ⟨h1, h2⟩ := br_none hk
        have h1 : sz' = sz := by simpa using h1
        subst h1
        obtain ⟨hu, hi⟩ := elemT_info he
        exact opx_index_arr ho hu hi hI (by rw [← hx]; exact hE.ev x) (by rw [← hix]; exact hE.ev ix) h2
      · cases hk
    · rename_i r' k i hx hix
      split at hk
      · rename_i m own sz n f el sz' z by_ hs he
        obtain ⟨h1, h2⟩ := br_none hk
        have h1 : sz' = sz := by simpa using h1
        subst h1
        obtain ⟨hu, hi⟩ := elemT_info he
        exact opx_index_ow ho hu hi hI (by rw [← hx]; exact hE.ev x) (by rw [← hix]; exact hE.ev ix) hs h2
      · cases hk
    · exact fallback (by rw [ho]; exact hk)
  | extract t i =>
    simp only [ho] at hk
    split at hk
    · rename_i vs ht
      split at hk
      · rename_i v hv
        have h := hE.ev t
        rw [ht] at h
        obtain ⟨us, he, hr⟩ := h.tup_inv
        obtain ⟨u, hu, hr⟩ := hr.at hv
        exact opx_pure hI (v := u) (by simp [execOp, ho, Instr.extract, he, hu]) hk hr
      · cases hk
    · cases hk
  | lookup t x ix ok =>
    cases ok with
    | true => exact fallback (by simpa only [ho] using hk)
    | false =>
      simp only [ho] at hk
      split at hk
      · rename_i k el r' s hu hx hix
        split at hk
        · rename_i k' el' g c hs
          obtain ⟨h1, h2⟩ := br_none hk
          obtain ⟨h3, h4⟩ := br_none h2
          simp only [Bool.and_eq_true, beq_iff_eq] at h1
          obtain ⟨⟨rfl, rfl⟩, hz⟩ := h1
          simp only [decide_eq_true_eq] at h3
          exact opx_lookup ho hu hz hI (by rw [← hx]; exact hE.ev x) (by rw [← hix]; exact hE.ev ix) hs h3 h4
        · cases hk
      · cases hk
  | mapUpdate t x ix y =>
    simp only [ho] at hk
    split at hk
    · rename_i k el r' s n hu hx hix hy
      split at hk
      · rename_i k' el' g c hs
        obtain ⟨h1, h2⟩ := br_none hk
        obtain ⟨h3, h4⟩ := br_none h2
        simp only [Bool.and_eq_true, beq_iff_eq] at h1
        obtain ⟨rfl, rfl⟩ := h1
        simp only [decide_eq_true_eq] at h3
        exact opx_mapUpdate ho hu hI (by rw [← hx]; exact hE.ev x) (by rw [← hix]; exact hE.ev ix) (by rw [← hy]; exact hE.ev y) hs h3 h4
      · cases hk
    · cases hk
  | call c =>
    simp only [ho] at hk
    split at hk
    · rename_i hc
      split at hk
      · rename_i x t ha ht
        have hv := hE.ev x
        split at hk
        · rename_i r' sz lo n q hx he
          rw [hx] at hv
          obtain ⟨A, cc, m, hv, _⟩ := hv.arr_inv
          obtain ⟨el, sz', z, by_⟩ := q
          exact opx_len ho hc ha hI hv hk ⟨t, el, ht, (elemT_info he).1⟩
        · rename_i r' q hx he
          rw [hx] at hv
          split at hk
          · rename_i m own sz n f hs
            obtain ⟨hT, A, n', cc, hv⟩ := hv.ow_inv
            obtain ⟨A', c', hx', hc', hA⟩ := ow_slice hI hs rfl (hv ▸ hT)
            cases hx'
            obtain ⟨el, sz', z, by_⟩ := q
            exact opx_len ho hc ha hI hv hk ⟨t, el, ht, (elemT_info he).1⟩
          · cases hk
        · rename_i sz z q hx he
          rw [hx] at hv
          obtain ⟨el, sz', z, by_⟩ := q
          exact opx_len ho hc ha hI hv.nl_inv hk ⟨t, el, ht, (elemT_info he).1⟩
        · exact fallback (by rw [ho]; exact hk)
      · cases hk
    · rename_i hc
      split at hk
      · rename_i s x t t' ha ht
        obtain ⟨h1, h2⟩ := br_none hk
        have h1 : t = t' := by simpa using h1
        subst h1
        exact opx_append ho hc ha ht hI hF (hE.ev s) (hE.ev x) h2
      · cases hk
    · rename_i hc
      split at hk
      · rename_i x t ha ht
        split at hk
        · rename_i r' sz lo n el sz' z by_ hx he
          split at hk
          · rename_i own sz0 m f hs
            obtain ⟨h1, h2⟩ := br_none hk
            have h1 : sz = sz' := by simpa using h1
            subst h1
            exact opx_clear ho hc ha ht he hI (by rw [← hx]; exact hE.ev x) hs h2
          · cases hk
        · cases hk
      · cases hk
    · exact fallback (by rw [ho]; exact hk)
    · rename_i f hc
      split at hk
      · rename_i g caps hf
        obtain ⟨hg, hk1⟩ := br_none hk
        obtain ⟨hok, hk2⟩ := br_none hk1
        have hv := evs_repX hE c.args.toList
        have hfv := hE.ev f
        rw [hf] at hfv
        unfold evCall at hk2
        split at hk2
        · split at hk2
          · rename_i hcl
            exact opx_pure_call hC.call ho hc hg hI hfv hv hcl hk2
          · obtain ⟨h1, h2⟩ := br_none hk2
            exact opx_look_call hC.call ho hc hg hI hfv hv h1 h2
        · rename_i el sz by_ hm
          obtain ⟨call2, hC2, hce⟩ := hC.clone _ _ _ _ hm
          split at hk2
          · rename_i sz' n ff hargs
            obtain ⟨h1, h2⟩ := br_none hk2
            obtain ⟨h3, h4⟩ := br_none h2
            have h1 : sz' = sz := by simpa using h1
            subst h1
            rw [hargs] at hv
            exact opx_clone hC2 hce ho hc hg hI hfv hF hv (by simpa using h3) (.inl rfl) h4
          · rename_i r' sz' lo n hargs
            split at hk2
            · rename_i m own sz'' n' ff hs
              obtain ⟨h1, h2⟩ := br_none hk2
              obtain ⟨h3, h4⟩ := br_none h2
              simp only [Bool.and_eq_true, beq_iff_eq] at h1
              obtain ⟨rfl, rfl⟩ := h1
              rw [hargs] at hv
              exact opx_clone hC2 hce ho hc hg hI hfv hF hv (by simpa using h3) (.inr (.inl ⟨r', lo, m, own, n', ff, rfl, hs, rfl⟩)) h4
            · cases hk2
          · rename_i r' hargs
            split at hk2
            · rename_i m own sz' n ff hs
              obtain ⟨h1, h2⟩ := br_none hk2
              obtain ⟨h3, h4⟩ := br_none h2
              have h1 : sz' = sz := by simpa using h1
              subst h1
              rw [hargs] at hv
              exact opx_clone hC2 hce ho hc hg hI hfv hF hv (by simpa using h3) (.inr (.inr ⟨r', m, own, rfl, hs⟩)) h4
            · cases hk2
          · cases hk2
        · rename_i hm
          split at hk2
          · rename_i r' hargs
            split at hk2
            · rename_i k el ff cnt hs
              rw [hargs] at hv
              exact opx_mclone (hC.mclone _ hm) ho hc hg hI hfv hF hv hs hk2
            · cases hk2
          · cases hk2
        · exact opx_callK rfl hC.call2 ho hc hg hI hfr hfv hv hk2
      · cases hk
    · cases hk
  | _ => exact fallback (by simpa only [ho] using hk)
end
end Go.Eng
end

section
namespace Go.Eng
open Go.RowKit
set_option linter.unusedVariables false
set_option linter.unusedSimpArgs false
variable {α β γ : Type}

abbrev V3 := HV × Wr × List Nat
def some3' : KO V3 := fun v W rd => some (v, W, rd)

theorem loadE_q (P : Program) (t : TypeId) (cs : List HV) (off : Nat) (K : HV → Option β) : loadE P t cs off K = bnd (loadE P t cs off some) K := by
  unfold loadE
  split
  · exact bndB_q _ _
  · exact bndI_q _ _ _
  · exact bndS_q _ _
  · exact loadC_q _ _ _ _ _
theorem closeKs_u {F : (γ : Type) → HV → (HV → Wr → Option γ) → Option γ} (hF : ∀ (β : Type) h (K : HV → Wr → Option β), F β h K = bnd (F _ h fun v W => some (v, W)) (fun x => K x.1 x.2)) : ∀ (hs : List HV) (β : Type) (K : List HV → Wr → Option β), closeKs (F β) hs K = bnd (closeKs (F _) hs fun v W => some (v, W)) (fun x => K x.1 x.2) := by
  intro hs
  induction hs with
  | nil => intro β K; simp only [closeKs, bnd_some]
  | cons h t ih =>
    intro β K
    simp only [closeKs]
    rw [hF β, hF _ h (fun v W => closeKs (F (List HV × Wr)) t fun vs W' => some (v :: vs, W ++ W')), bnd_bnd]
    congr 1
    funext x
    rw [ih β, ih _ (fun vs W' => some (x.1 :: vs, x.2 ++ W')), bnd_bnd]
    simp only [bnd_some]
theorem closeK_u (st : List Ob) : ∀ (d : Nat) (β : Type) (h : HV) (K : HV → Wr → Option β), closeK st d h K = bnd (closeK st d h fun v W => some (v, W)) (fun x => K x.1 x.2) := by
  intro d
  induction d with
  | zero => intro β h K; simp only [closeK, bnd_none]
  | succ d ih =>
    intro β h K
    unfold closeK
    split
    all_goals first | (simp only [bnd_some]; done) | (simp only [bnd_none]; done) | skip
    · split <;> simp only [bnd_some, bnd_none]
    · split <;> simp only [bnd_some, bnd_none]
    · rw [closeKs_u (F := fun γ => closeK st d) (fun β h K => ih β h K), closeKs_u (F := fun γ => closeK st d) (fun β h K => ih β h K) _ _ (fun vs W => some (HV.fn _ vs, W)), bnd_bnd]
      simp only [bnd_some]
    · rw [closeKs_u (F := fun γ => closeK st d) (fun β h K => ih β h K), closeKs_u (F := fun γ => closeK st d) (fun β h K => ih β h K) _ _ (fun vs W => some (HV.agg vs, W)), bnd_bnd]
      simp only [bnd_some]
theorem snapKs_u {F : (γ : Type) → HV → (HV → List Nat → Option γ) → Option γ} (hF : ∀ (β : Type) h (K : HV → List Nat → Option β), F β h K = bnd (F _ h fun v W => some (v, W)) (fun x => K x.1 x.2)) : ∀ (hs : List HV) (β : Type) (K : List HV → List Nat → Option β), snapKs (F β) hs K = bnd (snapKs (F _) hs fun v W => some (v, W)) (fun x => K x.1 x.2) := by
  intro hs
  induction hs with
  | nil => intro β K; simp only [snapKs, bnd_some]
  | cons h t ih =>
    intro β K
    simp only [snapKs]
    rw [hF β, hF _ h (fun v W => snapKs (F (List HV × List Nat)) t fun vs W' => some (v :: vs, W ++ W')), bnd_bnd]
    congr 1
    funext x
    rw [ih β, ih _ (fun vs W' => some (x.1 :: vs, x.2 ++ W')), bnd_bnd]
    simp only [bnd_some]
theorem snapK_u (st : List Ob) : ∀ (d : Nat) (β : Type) (h : HV) (K : HV → List Nat → Option β), snapK st d h K = bnd (snapK st d h fun v W => some (v, W)) (fun x => K x.1 x.2) := by
  intro d
  induction d with
  | zero => intro β h K; simp only [snapK, bnd_none]
  | succ d ih =>
    intro β h K
    unfold snapK
    split
    all_goals first | (simp only [bnd_some]; done) | (simp only [bnd_none]; done) | skip
    · split <;> simp only [bnd_some, bnd_none]
    · split <;> simp only [bnd_some, bnd_none]
    · split <;> simp only [bnd_some, bnd_none]
    · split
      · rw [snapKs_u (F := fun γ => snapK st d) (fun β h K => ih β h K), snapKs_u (F := fun γ => snapK st d) (fun β h K => ih β h K) _ _ (fun vs rd => some (HV.ptr vs _, _ :: rd)), bnd_bnd]
        simp only [bnd_some]
      · simp only [bnd_none]
    · rw [snapKs_u (F := fun γ => snapK st d) (fun β h K => ih β h K), snapKs_u (F := fun γ => snapK st d) (fun β h K => ih β h K) _ _ (fun vs W => some (HV.fn _ vs, W)), bnd_bnd]
      simp only [bnd_some]
    · rw [snapKs_u (F := fun γ => snapK st d) (fun β h K => ih β h K), snapKs_u (F := fun γ => snapK st d) (fun β h K => ih β h K) _ _ (fun vs W => some (HV.agg vs, W)), bnd_bnd]
      simp only [bnd_some]
theorem srcK_u (st : List Ob) (x : HV) (K : Nat → Nat → (Nat → List HV) → List Nat → Option β) : srcK st x K = bnd (srcK st x fun a b c d => some (a, b, c, d)) (fun x => K x.1 x.2.1 x.2.2.1 x.2.2.2) := by
  unfold srcK
  split
  all_goals first | (simp only [bnd_some]; done) | (simp only [bnd_none]; done) | (split <;> simp only [bnd_some, bnd_none])
theorem bnd_bndX (x : Option (HV × List Ob)) (f : HV → List Ob → Option α) (g : α → Option β) : bnd (bndX x f) g = bndX x (fun r so => bnd (f r so) g) := by
  cases x with
  | none => simp only [bndX_none, bnd_none]
  | some p => obtain ⟨r, so⟩ := p; simp only [bndX_some]

theorem closeKs_u2 {st : List Ob} {d : Nat} {hs : List HV} {K : List HV → Wr → Option β} {F : List HV → Wr → Option γ} {H : γ → Option β} (hh : ∀ v W, K v W = bnd (F v W) H) : closeKs (closeK st d) hs K = bnd (closeKs (closeK st d) hs F) H := by
  rw [closeKs_u (F := fun γ => closeK st d) (fun β h K => closeK_u st d β h K), closeKs_u (F := fun γ => closeK st d) (fun β h K => closeK_u st d β h K) _ _ F, bnd_bnd]
  congr 1; funext x; exact hh _ _
theorem closeK_u2 {st : List Ob} {d : Nat} {h : HV} {K : HV → Wr → Option β} {F : HV → Wr → Option γ} {H : γ → Option β} (hh : ∀ v W, K v W = bnd (F v W) H) : closeK st d h K = bnd (closeK st d h F) H := by
  rw [closeK_u, closeK_u (K := F), bnd_bnd]; congr 1; funext x; exact hh _ _
theorem snapKs_u2 {st : List Ob} {d : Nat} {hs : List HV} {K : List HV → List Nat → Option β} {F : List HV → List Nat → Option γ} {H : γ → Option β} (hh : ∀ v W, K v W = bnd (F v W) H) : snapKs (snapK st d) hs K = bnd (snapKs (snapK st d) hs F) H := by
  rw [snapKs_u (F := fun γ => snapK st d) (fun β h K => snapK_u st d β h K), snapKs_u (F := fun γ => snapK st d) (fun β h K => snapK_u st d β h K) _ _ F, bnd_bnd]
  congr 1; funext x; exact hh _ _
theorem srcK_u2 {st : List Ob} {x : HV} {K : Nat → Nat → (Nat → List HV) → List Nat → Option β} {F : Nat → Nat → (Nat → List HV) → List Nat → Option γ} {H : γ → Option β} (hh : ∀ a b c d, K a b c d = bnd (F a b c d) H) : srcK st x K = bnd (srcK st x F) H := by
  rw [srcK_u, srcK_u (K := F), bnd_bnd]; congr 1; funext x; exact hh _ _ _ _
theorem typed_u2 {P : Program} {t : TypeId} {x : Option HV} {K : HV → Option β} {F : HV → Option γ} {H : γ → Option β} (hh : ∀ v, K v = bnd (F v) H) : typed P t x K = bnd (typed P t x F) H :=
  val_u (X := typed _ _ _) (Y := typed _ _ _) (typed_q _ _ _ _) (typed_q _ _ _ _) hh
theorem loadC_u2 {P : Program} {t : TypeId} {cs : List HV} {off : Nat} {K : HV → Option β} {F : HV → Option γ} {H : γ → Option β} (hh : ∀ v, K v = bnd (F v) H) : loadC P t cs off K = bnd (loadC P t cs off F) H :=
  val_u (X := loadC _ _ _ _) (Y := loadC _ _ _ _) (loadC_q _ _ _ _ _) (loadC_q _ _ _ _ _) hh
theorem loadE_u2 {P : Program} {t : TypeId} {cs : List HV} {off : Nat} {K : HV → Option β} {F : HV → Option γ} {H : γ → Option β} (hh : ∀ v, K v = bnd (F v) H) : loadE P t cs off K = bnd (loadE P t cs off F) H :=
  val_u (X := loadE _ _ _ _) (Y := loadE _ _ _ _) (loadE_q _ _ _ _ _) (loadE_q _ _ _ _ _) hh
theorem sliceN_u2 {n : Nat} {lo hi : Option HV} {K : Nat → Nat → Option β} {F : Nat → Nat → Option γ} {H : γ → Option β} (hh : ∀ l h, K l h = bnd (F l h) H) : sliceN n lo hi K = bnd (sliceN n lo hi F) H := by
  unfold sliceN
  split <;> simp only [hh, bnd_br, bnd_none]
theorem evField_u2 {P : Program} {t : TypeId} {i : Nat} {x : HV} {K : HV → Option β} {F : HV → Option γ} {H : γ → Option β} (hh : ∀ v, K v = bnd (F v) H) : evField P t i x K = bnd (evField P t i x F) H :=
  val_u (X := evField _ _ _ _) (Y := evField _ _ _ _) (evField_q _ _ _ _ _) (evField_q _ _ _ _ _) hh
theorem evBin_u2 {P : Program} {op : BinOp} {t : TypeId} {x y : HV} {K : HV → Option β} {F : HV → Option γ} {H : γ → Option β} (hh : ∀ v, K v = bnd (F v) H) : evBin P op t x y K = bnd (evBin P op t x y F) H :=
  val_u (X := evBin _ _ _ _ _) (Y := evBin _ _ _ _ _) (evBin_q _ _ _ _ _ _) (evBin_q _ _ _ _ _ _) hh

/-- An operation's answer, told first and used then. -/
theorem evOp2_u (C : Cfg2) (o : Oper) (e : List HV) (st : List Ob) (fr : Option Nat) (K : KO β) (F : KO γ) (H : γ → Option β) (hh : ∀ v W rd, K v W rd = bnd (F v W rd) H) : evOp2 C o e st fr K = bnd (evOp2 C o e st fr F) H := by
  have fb : (evOp ⟨C.P, C.call⟩ true o e [] fun v _ _ => K v [] []) = bnd (evOp ⟨C.P, C.call⟩ true o e [] fun v _ _ => F v [] []) H := evOp_u2 fun v e st => hh _ _ _
  unfold evOp2
  simp only [evK_eq, evKs_eq, List.map_map, fb]
  cases o.op with
  | move x => exact hh _ _ _
  | assign x =>
    simp only
    split
    · split <;> exact hh _ _ _
    · exact hh _ _ _
  | pick c x y =>
    simp only
    split
    · rw [bnd_br, hh, hh]
    · simp only [bnd_none]
  | alloc t => simp only; split <;> simp only [hh, bnd_none]
  | box t x => simp only [hh, bnd_brs, bnd_none]
  | build t parts =>
    simp only
    split
    · rw [bnd_brs, bnd_none, bnd_brs, bnd_none]
      congr 2
      split <;> simp only [hh, bnd_none]
    · simp only [bnd_none]
  | buildSlice t len parts =>
    simp only
    split
    · exact closeKs_u2 fun v W => by rw [bnd_brs, bnd_none, hh]
    · simp only [bnd_none]
  | load t x =>
    simp only
    split
    · split
      · exact loadC_u2 fun v => hh _ _ _
      · simp only [bnd_none]
    · split
      · exact loadE_u2 fun v => hh _ _ _
      · simp only [bnd_none]
    · rw [bnd_brs, bnd_none]
  | store t x y =>
    simp only
    split
    · split
      · rw [bnd_brs, bnd_none, hh]
      · simp only [bnd_none]
    · exact closeK_u2 fun v W => by
        split
        · rw [bnd_brs, bnd_none, hh]
        · simp only [bnd_none]
    · simp only [bnd_none]
  | nilCheck x => simp only; split <;> first | exact hh _ _ _ | rw [bnd_brs, bnd_none]
  | binOp op t x y yt =>
    simp only
    split
    · exact evBin_u2 fun v => hh _ _ _
    · exact evBin_u2 fun v => hh _ _ _
    · rw [bnd_brs, bnd_none]
  | makeFunc fn first captured =>
    simp only
    split
    · rw [bnd_brs, bnd_none, hh]
    · simp only [bnd_none]
  | makeSlice t l c =>
    simp only
    split
    · simp only [bnd_br, bnd_none, hh]
    · simp only [bnd_none]
  | makeMap t res =>
    simp only
    split
    · split
      · exact hh _ _ _
      · simp only [bnd_none]
    · simp only [bnd_none]
  | slice t x lo hi mx =>
    have emp : ∀ id m, evOp2.empK C.P id t lo hi m e K = bnd (evOp2.empK C.P id t lo hi m e F) H := fun id m => by
      unfold evOp2.empK
      split <;> simp only [hh, bnd_none]
    simp only
    split
    · split
      · rw [bnd_brs, bnd_none]; congr 1; exact sliceN_u2 fun l h => hh _ _ _
      · exact emp _ _
    · split
      · split
        · rw [bnd_brs, bnd_none]; congr 1; exact sliceN_u2 fun l h => hh _ _ _
        · simp only [bnd_none]
      · exact emp _ _
    · split
      · rw [bnd_brs, bnd_none]
      · exact emp _ _
    · split
      · rw [bnd_brs, bnd_none]; congr 1; exact sliceN_u2 fun l h => hh _ _ _
      · exact emp _ _
    · rw [bnd_brs, bnd_none]
  | fieldAddr t x i =>
    simp only
    split
    · exact evField_u2 fun v => hh _ _ _
    · exact evField_u2 fun v => hh _ _ _
    · rw [bnd_brs, bnd_none]
  | indexAddr t x ix =>
    simp only
    split
    · split
      · simp only [bnd_brs, bnd_br, bnd_none, hh]
      · simp only [bnd_none]
    · split
      · simp only [bnd_brs, bnd_br, bnd_none, hh]
      · simp only [bnd_none]
    · rw [bnd_brs, bnd_none]
  | extract t i =>
    simp only
    split
    · split
      · exact hh _ _ _
      · simp only [bnd_none]
    · simp only [bnd_none]
  | lookup t x ix ok =>
    cases ok with
    | true => simp only [bnd_brs, bnd_none]
    | false =>
      simp only
      split
      · split
        · simp only [bnd_brs, bnd_br, bnd_none, hh]
        · simp only [bnd_none]
      · simp only [bnd_none]
  | mapUpdate t x ix y =>
    simp only
    split
    · split
      · simp only [bnd_brs, bnd_br, bnd_none, hh]
      · simp only [bnd_none]
    · simp only [bnd_none]
  | call c =>
    simp only
    split
    · split
      · split
        · exact hh _ _ _
        · split
          · exact hh _ _ _
          · simp only [bnd_none]
        · exact hh _ _ _
        · rw [bnd_brs, bnd_none]
      · simp only [bnd_none]
    · split
      · rw [bnd_brs, bnd_none]
        congr 1
        unfold appendK
        split
        · refine srcK_u2 fun a b c d => ?_
          rw [bnd_brs, bnd_none]
          congr 1
          split
          · simp only [bnd_br, bnd_none, hh]
          · simp only [bnd_br, bnd_none, hh]
          · split
            · simp only [bnd_brs, bnd_br, bnd_none, hh]
            · simp only [bnd_none]
          · simp only [bnd_none]
        · simp only [bnd_none]
      · simp only [bnd_none]
    · split
      · split
        · split
          · rw [bnd_brs, bnd_none, hh]
          · simp only [bnd_none]
        · simp only [bnd_none]
      · simp only [bnd_none]
    · rw [bnd_brs, bnd_none]
    · split
      · rw [bnd_brs, bnd_none, bnd_brs, bnd_none]
        congr 2
        unfold evCall
        split
        · split
          · exact typed_u2 fun v => hh _ _ _
          · rw [bnd_brs, bnd_none]
            congr 1
            exact snapKs_u2 fun v W => typed_u2 fun v => hh _ _ _
        · split
          · simp only [bnd_brs, bnd_br, bnd_none, hh]
          · split
            · simp only [bnd_brs, bnd_br, bnd_none, hh]
            · simp only [bnd_none]
          · split
            · simp only [bnd_brs, bnd_br, bnd_none, hh]
            · simp only [bnd_none]
          · simp only [bnd_none]
        · split
          · split
            · exact hh _ _ _
            · simp only [bnd_none]
          · simp only [bnd_none]
        · unfold callK
          simp only [tellK_eq]
          rw [bnd_brs, bnd_none, bnd_bndX]
          congr 2
          funext r so
          split
          · rw [bnd_br, bnd_none]
            congr 1
            split
            · exact typed_u2 fun v => hh _ _ _
            · rw [bnd_br, bnd_none, hh]
          · rw [bnd_brs, bnd_none, hh]
      · simp only [bnd_none]
    · simp only [bnd_none]
  | _ => simp only [bnd_brs, bnd_none]
end Go.Eng
end

section
namespace Go.Eng
open Go.RowKit
set_option linter.unusedVariables false
set_option linter.unusedSimpArgs false

section
variable {st st' : List Ob}

theorem closeKs_w {F : HV → (HV → Wr → Option (HV × Wr)) → Option (HV × Wr)} : True := trivial

theorem closeK_fp : ∀ (d : Nat) {h c : HV} {W : Wr}, closeK st d h (fun v W => some (v, W)) = some (c, W) → (∀ r ∈ W.map (·.1), st'[r]? = st[r]?) → closeK st' d h (fun v W => some (v, W)) = some (c, W) := by
  intro d
  induction d with
  | zero => intro h c W hk _; cases hk
  | succ d ih =>
    intro h c W hk hr
    have lst : ∀ {hs cs : List HV} {W : Wr}, closeKs (closeK st d) hs (fun v W => some (v, W)) = some (cs, W) → (∀ r ∈ W.map (·.1), st'[r]? = st[r]?) → closeKs (closeK st' d) hs (fun v W => some (v, W)) = some (cs, W) := by
      intro hs
      induction hs with
      | nil => intro cs W hk _; exact hk
      | cons x xs ih2 =>
        intro cs W hk hr
        simp only [closeKs] at hk ⊢
        rw [closeK_u] at hk ⊢
        obtain ⟨⟨c, W1⟩, h1, h2⟩ := bnd_eq hk
        rw [closeKs_u (F := fun γ => closeK st d) (fun β h K => closeK_u st d β h K)] at h2
        obtain ⟨⟨cs', W2⟩, h3, h4⟩ := bnd_eq h2
        simp only [Option.some.injEq, Prod.mk.injEq] at h4
        obtain ⟨rfl, rfl⟩ := h4
        rw [ih h1 (fun r hm => hr r (by rw [List.map_append]; exact List.mem_append_left _ hm)), bnd_some]
        rw [closeKs_u (F := fun γ => closeK st' d) (fun β h K => closeK_u st' d β h K), ih2 h3 (fun r hm => hr r (by rw [List.map_append]; exact List.mem_append_right _ hm)), bnd_some]
    cases h with
    | ow r' =>
      simp only [closeK] at hk ⊢
      have : st'[r']? = st[r']? := by
        split at hk
        · simp only [Option.some.injEq, Prod.mk.injEq] at hk; obtain ⟨_, rfl⟩ := hk; exact hr r' (by simp)
        · cases hk
      rw [this]; exact hk
    | arr r' sz lo n =>
      simp only [closeK] at hk ⊢
      have : st'[r']? = st[r']? := by
        split at hk
        · simp only [Option.some.injEq, Prod.mk.injEq] at hk; obtain ⟨_, rfl⟩ := hk; exact hr r' (by simp)
        · cases hk
      rw [this]; exact hk
    | fn f cs =>
      simp only [closeK] at hk ⊢
      rw [closeKs_u (F := fun γ => closeK st d) (fun β h K => closeK_u st d β h K)] at hk
      rw [closeKs_u (F := fun γ => closeK st' d) (fun β h K => closeK_u st' d β h K)]
      obtain ⟨⟨cs', W2⟩, h3, h4⟩ := bnd_eq hk
      simp only [Option.some.injEq, Prod.mk.injEq] at h4
      obtain ⟨rfl, rfl⟩ := h4
      rw [lst h3 hr, bnd_some]
    | agg cs =>
      simp only [closeK] at hk ⊢
      rw [closeKs_u (F := fun γ => closeK st d) (fun β h K => closeK_u st d β h K)] at hk
      rw [closeKs_u (F := fun γ => closeK st' d) (fun β h K => closeK_u st' d β h K)]
      obtain ⟨⟨cs', W2⟩, h3, h4⟩ := bnd_eq hk
      simp only [Option.some.injEq, Prod.mk.injEq] at h4
      obtain ⟨rfl, rfl⟩ := h4
      rw [lst h3 hr, bnd_some]
    | _ => exact hk
theorem closeKs_fp (d : Nat) : ∀ {hs cs : List HV} {W : Wr}, closeKs (closeK st d) hs (fun v W => some (v, W)) = some (cs, W) → (∀ r ∈ W.map (·.1), st'[r]? = st[r]?) → closeKs (closeK st' d) hs (fun v W => some (v, W)) = some (cs, W) := by
  intro hs
  induction hs with
  | nil => intro cs W hk _; exact hk
  | cons x xs ih2 =>
    intro cs W hk hr
    simp only [closeKs] at hk ⊢
    rw [closeK_u] at hk ⊢
    obtain ⟨⟨c, W1⟩, h1, h2⟩ := bnd_eq hk
    rw [closeKs_u (F := fun γ => closeK st d) (fun β h K => closeK_u st d β h K)] at h2
    obtain ⟨⟨cs', W2⟩, h3, h4⟩ := bnd_eq h2
    simp only [Option.some.injEq, Prod.mk.injEq] at h4
    obtain ⟨rfl, rfl⟩ := h4
    rw [closeK_fp d h1 (fun r hm => hr r (by rw [List.map_append]; exact List.mem_append_left _ hm)), bnd_some]
    rw [closeKs_u (F := fun γ => closeK st' d) (fun β h K => closeK_u st' d β h K), ih2 h3 (fun r hm => hr r (by rw [List.map_append]; exact List.mem_append_right _ hm)), bnd_some]
theorem snapK_fp : ∀ (d : Nat) {h c : HV} {W : List Nat}, snapK st d h (fun v W => some (v, W)) = some (c, W) → (∀ r ∈ W, st'[r]? = st[r]?) → snapK st' d h (fun v W => some (v, W)) = some (c, W) := by
  intro d
  induction d with
  | zero => intro h c W hk _; cases hk
  | succ d ih =>
    intro h c W hk hr
    have lst : ∀ {hs cs : List HV} {W : List Nat}, snapKs (snapK st d) hs (fun v W => some (v, W)) = some (cs, W) → (∀ r ∈ W, st'[r]? = st[r]?) → snapKs (snapK st' d) hs (fun v W => some (v, W)) = some (cs, W) := by
      intro hs
      induction hs with
      | nil => intro cs W hk _; exact hk
      | cons x xs ih2 =>
        intro cs W hk hr
        simp only [snapKs] at hk ⊢
        rw [snapK_u] at hk ⊢
        obtain ⟨⟨c, W1⟩, h1, h2⟩ := bnd_eq hk
        rw [snapKs_u (F := fun γ => snapK st d) (fun β h K => snapK_u st d β h K)] at h2
        obtain ⟨⟨cs', W2⟩, h3, h4⟩ := bnd_eq h2
        simp only [Option.some.injEq, Prod.mk.injEq] at h4
        obtain ⟨rfl, rfl⟩ := h4
        rw [ih h1 (fun r hm => hr r (List.mem_append_left _ hm)), bnd_some]
        rw [snapKs_u (F := fun γ => snapK st' d) (fun β h K => snapK_u st' d β h K), ih2 h3 (fun r hm => hr r (List.mem_append_right _ hm)), bnd_some]
    cases h with
    | ow r' =>
      simp only [snapK] at hk ⊢
      have : st'[r']? = st[r']? := by
        split at hk
        · simp only [Option.some.injEq, Prod.mk.injEq] at hk; obtain ⟨_, rfl⟩ := hk; exact hr r' (by simp)
        · cases hk
      rw [this]; exact hk
    | arr r' sz lo n =>
      simp only [snapK] at hk ⊢
      have : st'[r']? = st[r']? := by
        split at hk
        · simp only [Option.some.injEq, Prod.mk.injEq] at hk; obtain ⟨_, rfl⟩ := hk; exact hr r' (by simp)
        · cases hk
      rw [this]; exact hk
    | elt r' sz i off =>
      simp only [snapK] at hk ⊢
      have : st'[r']? = st[r']? := by
        split at hk
        · simp only [Option.some.injEq, Prod.mk.injEq] at hk; obtain ⟨_, rfl⟩ := hk; exact hr r' (by simp)
        · cases hk
      rw [this]; exact hk
    | var r' off =>
      simp only [snapK] at hk ⊢
      split at hk
      · rename_i cs hs
        rw [snapKs_u (F := fun γ => snapK st d) (fun β h K => snapK_u st d β h K)] at hk
        obtain ⟨⟨cs', W2⟩, h3, h4⟩ := bnd_eq hk
        simp only [Option.some.injEq, Prod.mk.injEq] at h4
        obtain ⟨rfl, rfl⟩ := h4
        rw [hr r' (by simp), hs]
        simp only
        rw [snapKs_u (F := fun γ => snapK st' d) (fun β h K => snapK_u st' d β h K), lst h3 (fun r hm => hr r (by simp [hm])), bnd_some]
      · cases hk
    | fn f cs =>
      simp only [snapK] at hk ⊢
      rw [snapKs_u (F := fun γ => snapK st d) (fun β h K => snapK_u st d β h K)] at hk
      rw [snapKs_u (F := fun γ => snapK st' d) (fun β h K => snapK_u st' d β h K)]
      obtain ⟨⟨cs', W2⟩, h3, h4⟩ := bnd_eq hk
      simp only [Option.some.injEq, Prod.mk.injEq] at h4
      obtain ⟨rfl, rfl⟩ := h4
      rw [lst h3 hr, bnd_some]
    | agg cs =>
      simp only [snapK] at hk ⊢
      rw [snapKs_u (F := fun γ => snapK st d) (fun β h K => snapK_u st d β h K)] at hk
      rw [snapKs_u (F := fun γ => snapK st' d) (fun β h K => snapK_u st' d β h K)]
      obtain ⟨⟨cs', W2⟩, h3, h4⟩ := bnd_eq hk
      simp only [Option.some.injEq, Prod.mk.injEq] at h4
      obtain ⟨rfl, rfl⟩ := h4
      rw [lst h3 hr, bnd_some]
    | _ => exact hk
theorem snapKs_fp (d : Nat) : ∀ {hs cs : List HV} {W : List Nat}, snapKs (snapK st d) hs (fun v W => some (v, W)) = some (cs, W) → (∀ r ∈ W, st'[r]? = st[r]?) → snapKs (snapK st' d) hs (fun v W => some (v, W)) = some (cs, W) := by
  intro hs
  induction hs with
  | nil => intro cs W hk _; exact hk
  | cons x xs ih2 =>
    intro cs W hk hr
    simp only [snapKs] at hk ⊢
    rw [snapK_u] at hk ⊢
    obtain ⟨⟨c, W1⟩, h1, h2⟩ := bnd_eq hk
    rw [snapKs_u (F := fun γ => snapK st d) (fun β h K => snapK_u st d β h K)] at h2
    obtain ⟨⟨cs', W2⟩, h3, h4⟩ := bnd_eq h2
    simp only [Option.some.injEq, Prod.mk.injEq] at h4
    obtain ⟨rfl, rfl⟩ := h4
    rw [snapK_fp d h1 (fun r hm => hr r (List.mem_append_left _ hm)), bnd_some]
    rw [snapKs_u (F := fun γ => snapK st' d) (fun β h K => snapK_u st' d β h K), ih2 h3 (fun r hm => hr r (List.mem_append_right _ hm)), bnd_some]
theorem srcK_fp {x : HV} {a b : Nat} {f : Nat → List HV} {rd : List Nat} (hk : srcK st x (fun a b c d => some (a, b, c, d)) = some (a, b, f, rd)) (hr : ∀ r ∈ rd, st'[r]? = st[r]?) : srcK st' x (fun a b c d => some (a, b, c, d)) = some (a, b, f, rd) := by
  cases x with
  | ow r' =>
    simp only [srcK] at hk ⊢
    have : st'[r']? = st[r']? := by
      split at hk
      · simp only [Option.some.injEq, Prod.mk.injEq] at hk; obtain ⟨_, _, _, rfl⟩ := hk; exact hr r' (by simp)
      · cases hk
    rw [this]; exact hk
  | arr r' sz lo n =>
    simp only [srcK] at hk ⊢
    have : st'[r']? = st[r']? := by
      split at hk
      · simp only [Option.some.injEq, Prod.mk.injEq] at hk; obtain ⟨_, _, _, rfl⟩ := hk; exact hr r' (by simp)
      · cases hk
    rw [this]; exact hk
  | _ => exact hk

theorem reachL_sub : ∀ (k : Nat) (todo seen : List Nat) (x : Nat), x ∈ seen → x ∈ reachL st k todo seen := by
  intro k
  induction k with
  | zero => intro todo seen x h; exact h
  | succ k ih =>
    intro todo seen x h
    cases todo with
    | nil => exact h
    | cons r t =>
      simp only [reachL]
      cases seen.elem r with
      | true => exact ih _ _ _ h
      | false =>
        simp only [cond_false]
        split <;> exact ih _ _ _ (List.mem_append_left _ h)
theorem reachL_fp : ∀ (k : Nat) (todo seen : List Nat), (∀ r ∈ reachL st k todo seen, st'[r]? = st[r]?) → reachL st' k todo seen = reachL st k todo seen := by
  intro k
  induction k with
  | zero => intro todo seen _; rfl
  | succ k ih =>
    intro todo seen hr
    cases todo with
    | nil => rfl
    | cons r t =>
      simp only [reachL] at hr ⊢
      cases he : seen.elem r with
      | true => rw [he] at hr; exact ih _ _ hr
      | false =>
        rw [he] at hr
        simp only [cond_false] at hr ⊢
        have h1 : st'[r]? = st[r]? := by
          apply hr
          split <;> exact reachL_sub _ _ _ _ (by simp)
        rw [h1]
        split at hr
        · exact ih _ _ hr
        · exact ih _ _ hr

theorem evOp2_fp {C : Cfg2} {o : Oper} {e : List HV} {id : Nat} {v : HV} {W : Wr} {rd : List Nat} (hk : evOp2 C o e st (some id) some3' = some (v, W, rd)) (hl : st'.length = st.length) (hr : ∀ r ∈ rd, st'[r]? = st[r]?) : evOp2 C o e st' (some id) some3' = some (v, W, rd) := by
  unfold evOp2 at hk ⊢
  simp only [evK_eq, evKs_eq, List.map_map, Option.getD_some] at hk ⊢
  cases ho : o.op with
  | buildSlice t len parts =>
    simp only [ho] at hk ⊢
    split at hk
    · rename_i el sz z by_ he
      rw [closeKs_u (F := fun γ => closeK st 4) (fun β h K => closeK_u st 4 β h K)] at hk
      obtain ⟨⟨cs, W1⟩, h1, h2⟩ := bnd_eq hk
      obtain ⟨h3, h4⟩ := br_none h2
      simp only [some3', Option.some.injEq, Prod.mk.injEq] at h4
      obtain ⟨_, _, rfl⟩ := h4
      rw [closeKs_u (F := fun γ => closeK st' 4) (fun β h K => closeK_u st' 4 β h K), closeKs_fp 4 h1 hr, bnd_some]
      exact h2
    · cases hk
  | load t x =>
    simp only [ho] at hk ⊢
    split at hk
    · rename_i r' off hx
      have : st'[r']? = st[r']? := by
        split at hk
        · rw [loadC_q] at hk
          obtain ⟨u, h1, h2⟩ := bnd_eq hk
          simp only [some3', Option.some.injEq, Prod.mk.injEq] at h2
          obtain ⟨_, _, rfl⟩ := h2
          exact hr r' (by simp)
        · cases hk
      rw [this]; exact hk
    · rename_i r' sz i off hx
      have : st'[r']? = st[r']? := by
        split at hk
        · rw [loadE_q] at hk
          obtain ⟨u, h1, h2⟩ := bnd_eq hk
          simp only [some3', Option.some.injEq, Prod.mk.injEq] at h2
          obtain ⟨_, _, rfl⟩ := h2
          exact hr r' (by simp)
        · cases hk
      rw [this]; exact hk
    · exact hk
  | store t x y =>
    simp only [ho] at hk ⊢
    split at hk
    · rename_i r' off n hx hsz
      have : st'[r']? = st[r']? := by
        split at hk
        · obtain ⟨h1, h2⟩ := br_none hk
          simp only [some3', Option.some.injEq, Prod.mk.injEq] at h2
          obtain ⟨_, _, rfl⟩ := h2
          exact hr r' (by simp)
        · cases hk
      rw [this]; exact hk
    · rename_i r' sz i off n hx hsz
      rw [closeK_u] at hk
      obtain ⟨⟨c, W1⟩, h1, h2⟩ := bnd_eq hk
      have hrd : rd = r' :: W1.map (·.1) := by
        simp only at h2
        split at h2
        · obtain ⟨h3, h4⟩ := br_none h2
          simp only [some3', Option.some.injEq, Prod.mk.injEq] at h4
          exact h4.2.2.symm
        · cases h2
      subst hrd
      have key : (appl st' W1)[r']? = (appl st W1)[r']? := by
        have hap : ∀ (W : Wr) (s s' : List Ob), s'.length = s.length → s'[r']? = s[r']? → (appl s' W)[r']? = (appl s W)[r']? := by
          intro W
          induction W with
          | nil => intro s s' _ h; exact h
          | cons x W ih =>
            intro s s' hl h
            obtain ⟨i, o⟩ := x
            simp only [appl]
            have hlen : ∀ (t : List Ob) (i : Nat), (setO t i o).length = if i < t.length then t.length else t.length + 1 := by
              intro t
              induction t with
              | nil => intro i; simp [setO]
              | cons y t iht => intro i; cases i with
                | zero => simp [setO]
                | succ i => simp only [setO, List.length_cons, iht]; split <;> split <;> omega
            have hget : ∀ (t : List Ob) (i j : Nat), (setO t i o)[j]? = if j = min i t.length then some o else t[j]? := by
              intro t
              induction t with
              | nil => intro i j; cases j <;> simp [setO]
              | cons y t iht => intro i j; cases i with
                | zero => cases j <;> simp [setO]
                | succ i => cases j with
                  | zero => simp [setO]
                  | succ j => simp only [setO, List.getElem?_cons_succ, iht, List.length_cons]; congr 1; simp
            exact ih _ _ (by rw [hlen, hlen, hl]) (by rw [hget, hget, hl, h])
        exact hap W1 st st' hl (hr r' (by simp))
      rw [closeK_u, closeK_fp 4 h1 (fun r hm => hr r (by simp only [List.mem_cons]; exact .inr hm)), bnd_some]
      simp only at h2 ⊢
      rw [key]
      exact h2
    · cases hk
  | slice t x lo hi mx =>
    simp only [ho] at hk ⊢
    split at hk
    · exact hk
    · rename_i r' el hx hu
      split at hk
      · have : st'[r']? = st[r']? := by
          split at hk
          · obtain ⟨h1, h2⟩ := br_none hk
            rw [sliceN_q _ _ _ (fun l h => HV.arr r' _ l (h - l)) (fun v => some3' v [] [r'])] at h2
            obtain ⟨u, h3, h4⟩ := bnd_eq h2
            simp only [some3', Option.some.injEq, Prod.mk.injEq] at h4
            obtain ⟨_, _, rfl⟩ := h4
            exact hr r' (by simp)
          · cases hk
        simp only [this]; exact hk
      · exact hk
    · exact hk
    · exact hk
    · exact hk
  | indexAddr t x ix =>
    simp only [ho] at hk ⊢
    split at hk
    · exact hk
    · rename_i r' k i hx hix
      have : st'[r']? = st[r']? := by
        split at hk
        · obtain ⟨h1, h2⟩ := br_none hk
          obtain ⟨h3, h4⟩ := br_none h2
          simp only [some3', Option.some.injEq, Prod.mk.injEq] at h4
          obtain ⟨_, _, rfl⟩ := h4
          exact hr r' (by simp)
        · cases hk
      rw [this]; exact hk
    · exact hk
  | lookup t x ix ok =>
    cases ok with
    | true => simp only [ho] at hk ⊢; exact hk
    | false =>
      simp only [ho] at hk ⊢
      split at hk
      · rename_i k el r' s hu hx hix
        have : st'[r']? = st[r']? := by
          split at hk
          · obtain ⟨h1, h2⟩ := br_none hk
            obtain ⟨h3, h4⟩ := br_none h2
            simp only [some3', Option.some.injEq, Prod.mk.injEq] at h4
            obtain ⟨_, _, rfl⟩ := h4
            exact hr r' (by simp)
          · cases hk
        rw [this]; exact hk
      · cases hk
  | mapUpdate t x ix y =>
    simp only [ho] at hk ⊢
    split at hk
    · rename_i k el r' s n hu hx hix hy
      have : st'[r']? = st[r']? := by
        split at hk
        · obtain ⟨h1, h2⟩ := br_none hk
          obtain ⟨h3, h4⟩ := br_none h2
          simp only [some3', Option.some.injEq, Prod.mk.injEq] at h4
          obtain ⟨_, _, rfl⟩ := h4
          exact hr r' (by simp)
        · cases hk
      rw [this]; exact hk
    · cases hk
  | call c =>
    simp only [ho] at hk ⊢
    split at hk
    · split at hk
      · split at hk
        · exact hk
        · rename_i r' q hx he
          have : st'[r']? = st[r']? := by
            split at hk
            · simp only [some3', Option.some.injEq, Prod.mk.injEq] at hk
              obtain ⟨_, _, rfl⟩ := hk
              exact hr r' (by simp)
            · cases hk
          simp only [this]; exact hk
        · exact hk
        · exact hk
      · cases hk
    · split at hk
      · obtain ⟨h1, h2⟩ := br_none hk
        simp only [h1, brs_eq, br_t]
        unfold appendK at h2 ⊢
        split at h2
        · rename_i el sz z by_ he
          rw [srcK_u] at h2 ⊢
          obtain ⟨⟨sz', m, g, rd'⟩, h3, h4⟩ := bnd_eq h2
          obtain ⟨h5, h6⟩ := br_none h4
          have hsub : ∀ x ∈ rd', x ∈ rd := by
            simp only at h6
            split at h6
            · obtain ⟨_, h7⟩ := br_none h6
              simp only [some3', Option.some.injEq, Prod.mk.injEq] at h7
              obtain ⟨_, _, rfl⟩ := h7
              exact fun x hx => hx
            · obtain ⟨_, h7⟩ := br_none h6
              simp only [some3', Option.some.injEq, Prod.mk.injEq] at h7
              obtain ⟨_, _, rfl⟩ := h7
              exact fun x hx => hx
            · split at h6
              · obtain ⟨_, h7⟩ := br_none h6
                obtain ⟨_, h8⟩ := br_none h7
                simp only [some3', Option.some.injEq, Prod.mk.injEq] at h8
                obtain ⟨_, _, rfl⟩ := h8
                exact fun x hx => by simp [hx]
              · cases h6
            · cases h6
          rw [srcK_fp h3 (fun r hm => hr r (hsub r hm)), bnd_some]
          simp only [brs_eq] at h4 h6 ⊢
          simp only at h5
          rw [h5, br_t]
          split at h6
          · exact h6
          · exact h6
          · rename_i r' hx
            have : st'[r']? = st[r']? := by
              split at h6
              · obtain ⟨_, h7⟩ := br_none h6
                obtain ⟨_, h8⟩ := br_none h7
                simp only [some3', Option.some.injEq, Prod.mk.injEq] at h8
                obtain ⟨_, _, rfl⟩ := h8
                exact hr r' (by simp)
              · cases h6
            rw [this]; exact h6
          · cases h6
        · cases h2
      · cases hk
    · split at hk
      · rename_i x t ha ht
        split at hk
        · rename_i r' sz lo n el sz' z by_ hx he
          have : st'[r']? = st[r']? := by
            split at hk
            · obtain ⟨_, h7⟩ := br_none hk
              simp only [some3', Option.some.injEq, Prod.mk.injEq] at h7
              obtain ⟨_, _, rfl⟩ := h7
              exact hr r' (by simp)
            · cases hk
          rw [this]; exact hk
        · cases hk
      · cases hk
    · exact hk
    · split at hk
      · rename_i g caps hf
        obtain ⟨h1, h2⟩ := br_none hk
        obtain ⟨h3, h4⟩ := br_none h2
        simp only [h1, h3, brs_eq, br_t]
        unfold evCall at h4 ⊢
        split at h4
        · rename_i hm
          split at h4
          · exact h4
          · obtain ⟨h5, h6⟩ := br_none h4
            rw [snapKs_u (F := fun γ => snapK st 6) (fun β h K => snapK_u st 6 β h K)] at h6
            obtain ⟨⟨as, rd'⟩, h7, h8⟩ := bnd_eq h6
            obtain ⟨u, h9, h10⟩ := typed_eq h8
            simp only [some3', Option.some.injEq, Prod.mk.injEq] at h10
            obtain ⟨_, _, rfl⟩ := h10
            simp only [h5, brs_eq, br_t]
            rw [snapKs_u (F := fun γ => snapK st' 6) (fun β h K => snapK_u st' 6 β h K), snapKs_fp 6 h7 hr, bnd_some]
            exact h8
        · rename_i el sz by_ hm
          split at h4
          · exact h4
          · rename_i r' sz' lo n hargs
            have : st'[r']? = st[r']? := by
              split at h4
              · obtain ⟨_, h7⟩ := br_none h4
                obtain ⟨_, h8⟩ := br_none h7
                simp only [some3', Option.some.injEq, Prod.mk.injEq] at h8
                obtain ⟨_, _, rfl⟩ := h8
                exact hr r' (by simp)
              · cases h4
            rw [this]; exact h4
          · rename_i r' hargs
            have : st'[r']? = st[r']? := by
              split at h4
              · obtain ⟨_, h7⟩ := br_none h4
                obtain ⟨_, h8⟩ := br_none h7
                simp only [some3', Option.some.injEq, Prod.mk.injEq] at h8
                obtain ⟨_, _, rfl⟩ := h8
                exact hr r' (by simp)
              · cases h4
            rw [this]; exact h4
          · cases h4
        · split at h4
          · rename_i r' hargs
            have : st'[r']? = st[r']? := by
              split at h4
              · simp only [some3', Option.some.injEq, Prod.mk.injEq] at h4
                obtain ⟨_, _, rfl⟩ := h4
                exact hr r' (by simp)
              · cases h4
            rw [this]; exact h4
          · cases h4
        · have hvis : rd = reachL st 200 ((nzs C.P (paramsT C.P g) (c.args.toList.map (ev e)) ++ caps).flatMap (refsD 5)) [] := by
            unfold callK at h4
            simp only [tellK_eq] at h4
            obtain ⟨_, h5⟩ := br_none h4
            obtain ⟨rv, so, _, h6⟩ := bndX_eq h5
            split at h6
            · obtain ⟨_, h7⟩ := br_none h6
              split at h7
              · obtain ⟨u, _, h9⟩ := typed_eq h7
                simp only [some3', Option.some.injEq, Prod.mk.injEq] at h9
                exact h9.2.2.symm
              · obtain ⟨_, h9⟩ := br_none h7
                simp only [some3', Option.some.injEq, Prod.mk.injEq] at h9
                exact h9.2.2.symm
            · obtain ⟨_, h9⟩ := br_none h6
              simp only [some3', Option.some.injEq, Prod.mk.injEq] at h9
              exact h9.2.2.symm
          subst hvis
          have hre := reachL_fp (st := st) (st' := st') 200 ((nzs C.P (paramsT C.P g) (c.args.toList.map (ev e)) ++ caps).flatMap (refsD 5)) [] hr
          unfold callK at h4 ⊢
          simp only [tellK_eq, Option.getD_some] at h4 ⊢
          rw [hre]
          have hfil : (reachL st 200 ((nzs C.P (paramsT C.P g) (c.args.toList.map (ev e)) ++ caps).flatMap (refsD 5)) []).filter (fun r => liveO st'[r]?) = (reachL st 200 ((nzs C.P (paramsT C.P g) (c.args.toList.map (ev e)) ++ caps).flatMap (refsD 5)) []).filter (fun r => liveO st[r]?) :=
            List.filter_congr fun r hm => by rw [hr r hm]
          rw [hfil, hl]
          have hmap : ∀ (ids : List Nat), (∀ r ∈ ids, r ∈ reachL st 200 ((nzs C.P (paramsT C.P g) (c.args.toList.map (ev e)) ++ caps).flatMap (refsD 5)) []) → (ids.map fun r => renO (posOf ids) (st'.getD r .gone)) = ids.map fun r => renO (posOf ids) (st.getD r .gone) := fun ids hm =>
            List.map_congr_left fun r hr' => by rw [List.getD_eq_getElem?_getD, List.getD_eq_getElem?_getD, hr r (hm r hr')]
          rw [hmap _ (fun r h => (List.mem_filter.1 h).1)]
          exact h4
      · cases hk
    · cases hk
  | _ => simp only [ho] at hk ⊢; exact hk
end
end Go.Eng
end
