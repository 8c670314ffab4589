/- A verified interpreter of the model's code over plain values: what an operation of a quiet region tells. -/
import Derived.Test.YtokpjbddoppdpaaEngB
import Derived.Still
import Derived.ProofKit
import Derived.OpenShut
import Derived.ShutString
import Derived.ChangeOld
import Derived.SizedLaws
import Derived.Carry
set_option linter.unusedVariables false
set_option linter.unusedSimpArgs false
set_option linter.unusedSectionVars false
section
namespace Go.Eng
open Go.RowKit
set_option linter.unusedSimpArgs false
set_option linter.unusedVariables false
variable {α β γ : Type}

theorem bnd_br (b : Bool) (x y : Option α) (f : α → Option β) : bnd (br b x y) f = br b (bnd x f) (bnd y f) := by cases b <;> simp [br]
theorem br_t (x y : α) : br true x y = x := br_true x y
theorem br_f (x y : α) : br false x y = y := br_false x y
theorem bnd_ite {c : Prop} [Decidable c] (x y : Option α) (f : α → Option β) : bnd (if c then x else y) f = if c then bnd x f else bnd y f := by split <;> rfl

theorem toC_q (st : List Slot) (h : HV) (K : HV → List Slot → Option β) : toC true st h K = bnd (toC true st h (fun v _ => some v)) (fun v => K v st) := by
  unfold toC
  try simp only [brs_eq]
  cases h <;> simp only [bnd_some, bnd_none]
  case arr r sz lo n =>
    cases hs : st[r]? with
    | none => simp only [bnd_none]
    | some s => cases s with
      | row m sz' n' f => cases m with
        | true => simp only [Bool.and_self, br_t, bnd_none]
        | false => simp only [Bool.and_false, br_f, bnd_br, bnd_some, bnd_none, set_same hs]
      | _ => simp only [bnd_none]
  case var r off =>
    cases hs : st[r]? with
    | none => simp only [bnd_none]
    | some s => cases s with
      | var m cs => cases m with
        | true => simp only [Bool.and_self, br_t, bnd_none]
        | false => simp only [Bool.and_false, br_f, bnd_br, bnd_some, bnd_none, set_same hs]
      | _ => simp only [bnd_none]
  case elt r sz lo n =>
    cases hs : st[r]? with
    | none => simp only [bnd_none]
    | some s => cases s with
      | row m sz' n' f => cases m with
        | true => simp only [Bool.and_self, br_t, bnd_none]
        | false => simp only [Bool.and_false, br_f, bnd_br, bnd_some, bnd_none, set_same hs]
      | _ => simp only [bnd_none]

theorem bnd_bnd (x : Option α) (f : α → Option β) (g : β → Option γ) : bnd (bnd x f) g = bnd x (fun a => bnd (f a) g) := by cases x <;> simp only [bnd_some, bnd_none]

theorem toCs_q (st : List Slot) (hs : List HV) : ∀ (β : Type) (K : List HV → List Slot → Option β), toCs true st hs K = bnd (toCs true st hs (fun v _ => some v)) (fun v => K v st) := by
  induction hs with
  | nil => intro β K; simp only [toCs, bnd_some]
  | cons h hs ih =>
    intro β K
    simp only [toCs]
    rw [toC_q (K := fun v st => toCs true st hs fun vs st => K (v :: vs) st), toC_q (K := fun v st => toCs true st hs fun vs x => some (v :: vs)), bnd_bnd]
    congr 1
    funext v
    rw [ih β, ih _ (fun vs x => some (v :: vs)), bnd_bnd]
    simp only [bnd_some]

theorem toC_q2 {st : List Slot} {h : HV} {F : HV → List Slot → Option γ} {G : HV → List Slot → Option β} {K : γ → Option β} (hh : ∀ v, G v st = bnd (F v st) K) : toC true st h G = bnd (toC true st h F) K := by
  rw [toC_q (K := G), toC_q (K := F), bnd_bnd]; congr 1; funext v; exact hh v
theorem toCs_q2 {st : List Slot} {h : List HV} {F : List HV → List Slot → Option γ} {G : List HV → List Slot → Option β} {K : γ → Option β} (hh : ∀ v, G v st = bnd (F v st) K) : toCs true st h G = bnd (toCs true st h F) K := by
  rw [toCs_q (K := G), toCs_q (K := F), bnd_bnd]; congr 1; funext v; exact hh v

theorem loadC_q (P : Program) (t : TypeId) (cs : List HV) (off : Nat) (K : HV → Option β) : loadC P t cs off K = bnd (loadC P t cs off some) K := by
  unfold loadC
  try simp only [brs_eq]
  split
  · simp only [bnd_br, bnd_some, bnd_none]
  · split <;> simp only [bnd_some, bnd_none]
  · simp only [bnd_none]

theorem evBin_q (P : Program) (op : BinOp) (t : TypeId) (x y : HV) (K : HV → Option β) : evBin P op t x y K = bnd (evBin P op t x y some) K := by
  unfold evBin
  try simp only [brs_eq]
  split
  · split
    · cases op <;> simp only [bnd_some, bnd_none]
    · simp only [bnd_none]
  · cases op <;> simp only [bnd_some, bnd_none, bnd_br]
  · split
    · cases op <;> simp only [bnd_some, bnd_none]
    · simp only [bnd_none]
  · rw [bnd_br, bnd_none]
    congr 1
    split
    · cases op <;> simp only [bnd_some, bnd_none]
    · simp only [bnd_none]
  · split
    · cases op <;> simp only [bnd_some, bnd_none]
    · simp only [bnd_none]
  · split
    · cases op <;> simp only [bnd_some, bnd_none]
    · simp only [bnd_none]
  · split
    · cases op <;> simp only [bnd_some, bnd_none]
    · simp only [bnd_none]
  · split
    · cases op <;> simp only [bnd_some, bnd_none]
    · simp only [bnd_none]
  · simp only [bnd_none]

theorem evUn_q (op : UnOp) (x : HV) (K : HV → Option β) : evUn op x K = bnd (evUn op x some) K := by
  unfold evUn
  try simp only [brs_eq]
  split <;> simp only [bnd_some, bnd_none]
theorem evIdx_q (x : HV) (i : Int) (sz : Nat) (K : HV → Option β) : evIdx x i sz K = bnd (evIdx x i sz some) K := by
  unfold evIdx
  try simp only [brs_eq]
  split <;> simp only [bnd_some, bnd_none, bnd_br]
theorem evField_q (P : Program) (t : TypeId) (i : Nat) (x : HV) (K : HV → Option β) : evField P t i x K = bnd (evField P t i x some) K := by
  unfold evField
  try simp only [brs_eq]
  split
  · split
    · split
      · rw [bnd_br, bnd_none]
        congr 1
        split <;> simp only [bnd_some, bnd_none]
      · simp only [bnd_none]
    · simp only [bnd_none]
  · simp only [bnd_none]
theorem sliceN_q (n : Nat) (lo hi : Option HV) (F : Nat → Nat → HV) (K : HV → Option β) : sliceN n lo hi (fun l h => K (F l h)) = bnd (sliceN n lo hi (fun l h => some (F l h))) K := by
  unfold sliceN
  split <;> simp only [bnd_some, bnd_none, bnd_br]
theorem evSlice_q (P : Program) (t : TypeId) (x : HV) (lo hi : Option HV) (K : HV → Option β) : evSlice P t x lo hi K = bnd (evSlice P t x lo hi some) K := by
  unfold evSlice
  try simp only [brs_eq]
  split
  · rename_i s _
    exact sliceN_q _ _ _ (fun l h => .str (s.extract l h)) K
  · rw [bnd_br, bnd_none]
    congr 1
    exact sliceN_q _ _ _ _ K
  · rw [bnd_br, bnd_none]
    congr 1
    exact sliceN_q _ _ _ _ K
  · split
    · exact sliceN_q _ _ _ (fun _ _ => .nils) K
    · simp only [bnd_none]
  · simp only [bnd_none]

theorem bndB_q (x : Option HV) (K : HV → Option β) : (bndB x fun b => K (.bool b)) = bnd (bndB x fun b => some (.bool b)) K := by
  cases x with
  | none => simp [bndB, bnd]
  | some v => cases v <;> simp [bndB, bnd]
theorem bndI_q (k : IntKind) (x : Option HV) (K : HV → Option β) : (bndI k x fun b => K (.int k b)) = bnd (bndI k x fun b => some (.int k b)) K := by
  cases x with
  | none => simp [bndI, bnd]
  | some v => cases v <;> first | (simp [bndI, bnd]; done) | (rename_i k' n; by_cases h : k = k' <;> simp [bndI, bnd, h])
theorem bndS_q (x : Option HV) (K : HV → Option β) : (bndS x fun b => K (.str b)) = bnd (bndS x fun b => some (.str b)) K := by
  cases x with
  | none => simp [bndS, bnd]
  | some v => cases v <;> simp [bndS, bnd]
theorem bndL_q (sz : Nat) (x : Option HV) (K : HV → Option β) : (bndL sz x fun n f => K (.lst sz n f)) = bnd (bndL sz x fun n f => some (.lst sz n f)) K := by
  cases x with
  | none => simp [bndL, bnd]
  | some v => cases v <;> first | (simp [bndL, bnd]; done) | (rename_i k' n f; by_cases h : sz = k' <;> simp [bndL, bnd, h])
theorem typed_q (P : Program) (t : TypeId) (x : Option HV) (K : HV → Option β) : typed P t x K = bnd (typed P t x some) K := by
  unfold typed
  try simp only [brs_eq]
  split
  · exact bndB_q _ _
  · exact bndI_q _ _ _
  · exact bndS_q _ _
  · split
    · exact bndL_q _ _ _
    · simp only [bnd_none]
  · cases x <;> simp only [bnd_some, bnd_none]

/-- What an operation tells in a quiet region. -/
def valQ (C : Cfg) (o : Oper) (e : List HV) (st : List Slot) : Option HV := evOp C true o e st fun v _ _ => some v

theorem evOp_q (C : Cfg) (o : Oper) (e : List HV) (st : List Slot) (K : HV → List HV → List Slot → Option β) : evOp C true o e st K = bnd (valQ C o e st) (fun v => K v e st) := by
  unfold valQ evOp
  cases ho : o.op <;> simp only [brs_eq, evK_eq, evKs_eq, List.map_map, bnd_some, bnd_none, br_t, Bool.not_true, Bool.false_and, br_f]
  case pick c x y => split <;> simp only [bnd_some, bnd_none, bnd_br]
  case box t x => exact toC_q2 fun v => by simp only [bnd_some]
  case build t parts =>
    split
    · rw [bnd_br, bnd_none]
      congr 1
      refine toCs_q2 fun vs => ?_
      split <;> simp only [bnd_some, bnd_none]
    · simp only [bnd_none]
  case buildSlice t len parts =>
    split
    · exact toCs_q2 fun vs => by simp only [builtS, brs_eq, bnd_br, bnd_some, bnd_none, br_t]
    · simp only [bnd_none]
  case load t x =>
    split
    · exact loadC_q _ _ _ _ _
    · split
      · exact loadC_q _ _ _ _ _
      · simp only [bnd_none]
    · split
      · rw [bnd_br, bnd_none]
        congr 1
        exact loadC_q _ _ _ _ _
      · simp only [bnd_none]
    · simp only [bnd_none]
  case nilCheck x => split <;> simp only [bnd_some, bnd_none]
  case binOp op t x y yt => exact evBin_q _ _ _ _ _ _
  case unOp op t x => exact evUn_q _ _ _
  case convert src dst x => split <;> simp only [bnd_some, bnd_none]
  case makeFunc fn first captured =>
    split
    · exact toCs_q2 fun vs => by simp only [bnd_br, bnd_some, bnd_none]
    · simp only [bnd_none]
  case slice t x lo hi mx =>
    split
    · exact evSlice_q _ _ _ _ _ _
    · simp only [bnd_none]
  case fieldAddr t x i => exact evField_q _ _ _ _ _
  case indexAddr t x ix =>
    split
    · exact evIdx_q _ _ _ _
    · simp only [bnd_none]
  case index t x ix =>
    split
    · simp only [bnd_br, bnd_some, bnd_none]
    · simp only [bnd_none]
  case extract t i =>
    split
    · split <;> simp only [bnd_some, bnd_none]
    · simp only [bnd_none]
  case call c =>
    cases hc : c.callee with
    | invoke x n => simp only [bnd_none]
    | value f =>
      simp only
      split
      · rw [bnd_br, bnd_none]
        congr 1
        refine toCs_q2 fun vs => ?_
        exact typed_q _ _ _ _
      · simp only [bnd_none]
    | builtin b =>
      cases b <;> simp only [bnd_none]
      case append =>
        split
        · simp only [evAppend, brs_eq, br_t, bnd_br, bnd_none]
        · simp only [bnd_none]
      case len =>
        split
        · split <;> simp only [bnd_some, bnd_none]
        · simp only [bnd_none]
      case max =>
        split
        · split <;> simp only [bnd_some, bnd_none]
        · simp only [bnd_none]
      case min =>
        split
        · split <;> simp only [bnd_some, bnd_none]
        · simp only [bnd_none]

end Go.Eng
end

section
namespace Go.Eng
open Go.RowKit
set_option linter.unusedSimpArgs false
set_option linter.unusedVariables false

theorem valQ_congr {C : Cfg} {o : Oper} {e e' : List HV} {st : List Slot} (h : ∀ x ∈ o.op.operands, ev e x = ev e' x) : valQ C o e st = valQ C o e' st := by
  obtain ⟨dst, op, type, pos, after, guard⟩ := o
  have maps : ∀ ps : List Operand, (∀ x ∈ ps, ev e x = ev e' x) → ps.map (ev e) = ps.map (ev e') := fun ps hp => List.map_congr_left hp
  have pairs : ∀ ps : Array (Nat × Operand), (∀ x ∈ ps.map (·.2), ev e x = ev e' x) → ps.toList.map (ev e ∘ fun x => x.2) = ps.toList.map (ev e' ∘ fun x => x.2) := fun ps hp =>
    List.map_congr_left fun p hm => hp p.2 (Array.mem_map.2 ⟨p, by simpa using hm, rfl⟩)
  unfold valQ evOp
  cases op <;> simp only [Op.operands] at h <;> simp only [brs_eq, evK_eq, evKs_eq, List.map_map]
  case build t ps => simp only [pairs ps fun x hx => h x (by simpa using hx)]
  case buildSlice t n ps => simp only [pairs ps fun x hx => h x (by simpa using hx), builtS, brs_eq]
  case makeFunc fn first captured => simp only [maps captured.toList fun x hx => h x (by simp at hx; simp [hx])]
  case slice t x lo hi mx =>
    cases lo <;> cases hi <;> cases mx <;> simp_all
  case call c =>
    have hargs : c.args.toList.map (ev e) = c.args.toList.map (ev e') := maps _ fun x hx => h x (by simp at hx; simp [Call.operands, hx])
    cases hc : c.callee with
    | invoke x n => rfl
    | value f =>
      have hf : ev e f = ev e' f := h f (by simp [Call.operands, hc])
      simp only [hargs, hf]
    | builtin b =>
      have hm : ∀ x, x ∈ c.args.toList → ev e x = ev e' x := fun x hx => h x (by simp at hx; simp [Call.operands, hx])
      cases b <;> simp only [hargs]
      case append =>
        split
        · rename_i s x t t' ha ht
          rw [hm s (by rw [ha]; simp), hm x (by rw [ha]; simp)]
          simp only [evAppend, brs_eq, br_t]
        · rfl
      case len =>
        split
        · rename_i x t ha ht
          rw [hm x (by rw [ha]; simp)]
        · rfl
  all_goals (first | rfl | (simp_all; done) | (simp only [br_t]; done))

def want (all : Array Oper) (o : Oper) (e : List HV) : Option Bool := match o.guard with
  | none => some true
  | some (j, w) => match all[j]? with
    | some oj => match oj.dst with
      | some d => match e[d]? with
        | some (.bool b) => some (b == w)
        | some (.tup []) => some false
        | _ => none
      | none => none
    | none => none
def valE (C : Cfg) (all : Array Oper) (o : Oper) (e : List HV) (st : List Slot) : Option HV := match want all o e with
  | some true => valQ C o e st
  | some false => some (.tup [])
  | none => none
def putE (e : List HV) (d : Option Nat) (v : HV) : List HV := match d with | none => e | some d => e.set d v

theorem ev_putE {e : List HV} {d : Option Nat} {v : HV} {x : Operand} (h : ∀ t, d = some t → x ≠ .tmp t) : ev (putE e d v) x = ev e x := by
  cases d with
  | none => rfl
  | some t =>
    cases x with
    | tmp u =>
      have hne : t ≠ u := fun hh => h t rfl (hh ▸ rfl)
      simp [ev, putE, List.getD_eq_getElem?_getD, List.getElem?_set, hne]
    | _ => rfl
theorem putE_comm (e : List HV) {x y : Option Nat} (v u : HV) (h : ∀ d, x = some d → y ≠ some d) : putE (putE e x v) y u = putE (putE e y u) x v := by
  cases x with
  | none => rfl
  | some d => cases y with
    | none => rfl
    | some d' =>
      have hne : d ≠ d' := fun he => h d rfl (he ▸ rfl)
      exact List.set_comm _ _ hne
theorem valE_put {C : Cfg} {ops : Array Oper} {o : Oper} {e : List HV} {st : List Slot} {d : Option Nat} {v : HV} (h : ∀ t, d = some t → t ∉ o.looksAt ops) : valE C ops o (putE e d v) st = valE C ops o e st := by
  have h1 : want ops o (putE e d v) = want ops o e := by
    unfold want
    cases hg : o.guard with
    | none => rfl
    | some gw =>
      obtain ⟨j, w⟩ := gw
      simp only
      cases hj : ops[j]? with
      | none => rfl
      | some oj =>
        simp only
        cases hd : oj.dst with
        | none => rfl
        | some t =>
          simp only
          cases d with
          | none => rfl
          | some t' =>
            have hne : t' ≠ t := fun he => h t' rfl (by subst he; simp [Oper.looksAt, hg, hj, hd])
            simp [putE, List.getElem?_set, hne]
  have h2 : valQ C o (putE e d v) st = valQ C o e st := valQ_congr fun x hx => ev_putE fun t ht hxt => h t ht (by
    subst hxt
    exact List.mem_append_left _ (List.mem_filterMap.2 ⟨.tmp t, by simpa using hx, rfl⟩))
  unfold valE
  rw [h1, h2]

section
variable {C : Cfg} {md : Region.Mode} {ops : Array Oper} {st : List Slot} {Q : List HV → Prop}

def anyE (C : Cfg) (md : Region.Mode) (ops : Array Oper) (st : List Slot) (Q : List HV → Prop) : Nat → Array Bool → List HV → Prop
  | 0, listed, e => Region.ready md ops listed = [] ∧ Q e
  | fuel + 1, listed, e => (Region.ready md ops listed = [] → Q e) ∧
    ∀ i ∈ Region.ready md ops listed, ∃ o v, ops[i]? = some o ∧ valE C ops o e st = some v ∧ anyE C md ops st Q fuel (listed.setIfInBounds i true) (putE e o.dst v)
def textE (C : Cfg) (ops : Array Oper) (st : List Slot) (Q : List HV → Prop) : List Oper → List HV → Prop
  | [], e => Q e
  | o :: l, e => ∃ v, valE C ops o e st = some v ∧ textE C ops st Q l (putE e o.dst v)

theorem anyE_first {i : Nat} {oi : Oper} {v : HV} (hi : ops[i]? = some oi) : ∀ (fuel : Nat) (listed : Array Bool) (e : List HV),
    (∀ j oj, ops[j]? = some oj → j ≠ i → listed.getD j true = false → (∀ x ∈ oj.after, Region.binds md x = true → x.on ≠ i) → oi.apart ops oj = true) →
    i ∈ Region.ready md ops listed → valE C ops oi e st = some v → anyE C md ops st Q fuel (listed.setIfInBounds i true) (putE e oi.dst v) → anyE C md ops st Q (fuel + 1) listed e := by
  intro fuel
  induction fuel with
  | zero =>
    intro listed e _ hr hy H
    refine ⟨fun h => (by rw [h] at hr; cases hr), fun j hj => ?_⟩
    by_cases hji : j = i
    · subst hji; exact ⟨oi, v, hi, hy, H⟩
    · have := ready_mono hj hji
      rw [H.1] at this
      cases this
  | succ fuel ih =>
    intro listed e hfree hr hy H
    refine ⟨fun h => (by rw [h] at hr; cases hr), fun j hj => ?_⟩
    by_cases hji : j = i
    · subst hji; exact ⟨oi, v, hi, hy, H⟩
    · obtain ⟨oj, u, hoj, hu, hH⟩ := H.2 j (ready_mono hj hji)
      obtain ⟨hjun, oj', hoj', hall⟩ := mem_ready.1 hj
      rw [hoj] at hoj'
      cases hoj'
      have hnot : ∀ x ∈ oj.after, Region.binds md x = true → x.on ≠ i := fun x hx hb heq => by
        have h1 := hall x hx hb
        have h0 := (mem_ready.1 hr).1
        rw [heq] at h1
        rcases Nat.lt_or_ge i listed.size with h' | h'
        · simp [h'] at h0 h1; rw [h0] at h1; cases h1
        · simp [Array.getElem?_eq_none h'] at h1
      obtain ⟨k1, k2, k3⟩ := Oper.apart_spec (hfree j oj hoj hji hjun hnot)
      rw [valE_put k1] at hu
      refine ⟨oj, u, hoj, hu, ?_⟩
      have hfree' : ∀ k ok, ops[k]? = some ok → k ≠ i → (listed.setIfInBounds j true).getD k true = false →
          (∀ x ∈ ok.after, Region.binds md x = true → x.on ≠ i) → oi.apart ops ok = true := fun k ok hk hki hun hno => by
        refine hfree k ok hk hki ?_ hno
        by_cases hjk : j = k
        · subst hjk; exact hjun
        · rw [getD_set_ne true hjk] at hun; exact hun
      refine ih (listed.setIfInBounds j true) _ hfree' (ready_mono hr (Ne.symm hji)) (by rw [valE_put k3]; exact hy) ?_
      rw [Array.setIfInBounds_comm _ _ hji, ← putE_comm e v u k2]
      exact hH

theorem anyE_lex : ∀ (l : List Oper) (k : Nat) (listed : Array Bool) (e : List HV), (∀ j, l[j]? = ops[k + j]?) → Region.lexFrom md ops l.length k listed = true → textE C ops st Q l e → anyE C md ops st Q l.length listed e
  | [], _, _, _, _, hB, h => ⟨by simpa [Region.lexFrom] using hB, h⟩
  | o :: l, k, listed, e, hl, hB, h => by
    have h0 : ops[k]? = some o := by simpa using (hl 0).symm
    simp only [List.length_cons, Region.lexFrom, Bool.and_eq_true] at hB
    obtain ⟨⟨hr, hf⟩, hB'⟩ := hB
    obtain ⟨v, hy, hK⟩ := h
    exact anyE_first h0 l.length listed e (Region.free_spec h0 hf) (by simpa using hr) hy
      (anyE_lex l (k + 1) _ _ (fun j => by have := hl (j + 1); simpa [Nat.add_assoc, Nat.add_comm 1 j] using this) hB' hK)

/-- The text's order of a quiet region. -/
theorem evOps_text {β : Type} {K : List HV → List Slot → Option β} {r : β} : ∀ (l : List Oper) (e : List HV), evOps C true ops l e st K = some r → textE C ops st (fun e => K e st = some r) l e
  | [], e, h => h
  | o :: l, e, h => by
    have step : ∀ e, (evOp C true o e st fun v e st => put e o.dst v fun e => evOps C true ops l e st K) = some r → ∃ v, valQ C o e st = some v ∧ textE C ops st (fun e => K e st = some r) l (putE e o.dst v) := by
      intro e h
      rw [evOp_q] at h
      obtain ⟨v, hv, h2⟩ := bnd_eq h
      rw [put_eq] at h2
      exact ⟨v, hv, evOps_text l _ h2⟩
    unfold evOps at h
    unfold textE valE
    split at h
    · rename_i hg
      have hw : want ops o e = some true := by unfold want; rw [hg]
      obtain ⟨v, hv, h2⟩ := step e h
      exact ⟨v, by simp only [hw]; exact hv, h2⟩
    · rename_i j w hg
      split at h
      · rename_i oj hj
        split at h
        · rename_i d hd
          split at h
          · rename_i b hb
            have hw : want ops o e = some (b == w) := by unfold want; simp only [hg, hj, hd, hb]
            have he : e.set d (.bool b) = e := set_same hb
            rcases br_some h with ⟨h1, h2⟩ | ⟨h1, h2⟩
            · subst h1
              rw [setK_eq, he] at h2
              rcases br_some h2 with ⟨h3, h4⟩ | ⟨h3, h4⟩
              · subst h3
                obtain ⟨v, hv, h5⟩ := step e h4
                exact ⟨v, by simp only [hw, beq_self_eq_true]; exact hv, h5⟩
              · subst h3
                rw [put_eq] at h4
                exact ⟨.tup [], by simp only [hw]; rfl, evOps_text l _ h4⟩
            · subst h1
              rw [setK_eq, he] at h2
              rcases br_some h2 with ⟨h3, h4⟩ | ⟨h3, h4⟩
              · subst h3
                rw [put_eq] at h4
                exact ⟨.tup [], by simp only [hw]; rfl, evOps_text l _ h4⟩
              · subst h3
                obtain ⟨v, hv, h5⟩ := step e h4
                exact ⟨v, by simp only [hw, beq_self_eq_true]; exact hv, h5⟩
          · rename_i hb
            have hw : want ops o e = some false := by unfold want; simp only [hg, hj, hd, hb]
            rw [put_eq] at h
            exact ⟨.tup [], by simp only [hw], evOps_text l _ h⟩
          · cases h
        · cases h
      · cases h
end
end Go.Eng
end

section
namespace Go.Eng
open Go.RowKit
set_option linter.unusedSimpArgs false
set_option linter.unusedVariables false

section
variable {P : Program} {w0 : World} {S0 : Nat → Nat → Prop} {G : Gh} {st : List Slot} {w : World} {a : Act} {e : List HV}

theorem Inv.drew (h : Inv P w0 S0 G st w) : Inv P w0 S0 G st w.drew ∧ Gro G.S w G.S w.drew :=
  h.grow (S' := G.S) ((Below.refl _ _).drew) (fun _ _ h => h) (fun _ _ h => .inl h) h.slt

theorem put_defers (a : Act) (d : Option Nat) (v : Value) : (a.put d v).defers = a.defers := by cases d <;> rfl
theorem RepE.putE (hE : RepE G w e a) (d : Option Nat) {h : HV} {v : Value} (hv : RepV G w h v) : RepE G w (putE e d h) (a.put d v) := by
  have := hE.put d hv
  cases d <;> exact this

theorem tmps_of (hE : RepE G w e a) {d : Nat} {b : Bool} (h : e[d]? = some (.bool b)) : a.tmps[d]? = some (.bool b) := by
  have h1 := hE.2 d
  rw [List.getD_eq_getElem?_getD, h] at h1
  have h2 := RepV.bool_inv h1
  have hlt : d < a.tmps.size := by rw [← hE.1]; exact (List.getElem?_eq_some_iff.1 h).1
  rw [Array.getD_eq_getD_getElem?] at h2
  rw [Array.getElem?_eq_getElem hlt] at h2 ⊢
  simpa using h2

theorem tup_nil {v : Value} (h : RepV G w (.tup []) v) : v = Go.undef := by
  obtain ⟨us, rfl, h2⟩ := h
  cases h2
  rfl
theorem nil_tup : RepV G w (.tup []) Go.undef := ⟨[], rfl, .nil⟩
theorem wanted_of {ops : Array Oper} {o : Oper} {b : Bool} (hE : RepE G w e a) (h : want ops o e = some b) : Region.wanted o (yielded ops a.tmps) = b := by
  unfold want at h
  unfold Region.wanted
  split at h
  · rename_i hg; rw [hg]; injection h
  · rename_i j wt hg
    rw [hg]
    split at h
    · rename_i oj hj
      split at h
      · rename_i d hd
        split at h
        · rename_i b' hb
          injection h with h
          have : yielded ops a.tmps j = some b' := by
            unfold yielded
            simp [hj, hd, tmps_of hE hb]
          simp only [this]
          rw [← h]
          cases b' <;> cases wt <;> rfl
        · rename_i hb
          injection h with h
          have : yielded ops a.tmps j = none := by
            unfold yielded
            have h1 := hE.2 d
            rw [List.getD_eq_getElem?_getD, hb] at h1
            have h2 := tup_nil h1
            have hlt : d < a.tmps.size := by rw [← hE.1]; exact (List.getElem?_eq_some_iff.1 hb).1
            rw [Array.getD_eq_getD_getElem?, Array.getElem?_eq_getElem hlt] at h2
            have h3 : a.tmps[d]? = some Go.undef := by rw [Array.getElem?_eq_getElem hlt]; simpa using h2
            simp [hj, hd, h3, Go.undef]
          simp only [this]
          rw [← h]
          cases wt <;> rfl
        · cases h
      · cases h
    · cases h

theorem wpOp_of {C : Cfg} (hCP : C.P = P) (hC : CallOk P C.call) {ops : Array Oper} {o : Oper} {i : Nat} {v : HV} {Q : Exit → Act → World → Prop} {K : Act → World → Prop} (ho : ops[i]? = some o) (hI : Inv P w0 S0 G st w) (hE : RepE G w e a) (hd : a.defers = [])
    (hv : valE C ops o e st = some v) (hK : ∀ (G' : Gh) (a' : Act) (w' : World), Inv P w0 S0 G' st w' → RepE G' w' (putE e o.dst v) a' → a'.defers = [] → K a' w') : wpOp P ops Q i K a w := by
  unfold wpOp
  simp only [ho]
  unfold valE at hv
  split at hv
  · rename_i hw
    rw [wanted_of hE hw]
    simp only [if_true]
    refine .inl (Oper.wp_mono ?_ (evOp_sound hCP hC hI hE hv))
    rintro a' w' ⟨hv', u, e', st', G', h1, h2, h3, h4, h5, h6, _⟩
    injection h1 with h1
    subst h1
    obtain ⟨h6, h7, _, _⟩ := h6 rfl
    subst h6 h7
    exact hK G' a' w' h3 (by rw [h2]; exact h4.putE _ h5) (by rw [h2, put_defers]; exact hd)
  · rename_i hw
    rw [wanted_of hE hw]
    injection hv with hv
    subst hv
    simp only [Bool.false_eq_true, if_false]
    exact hK G _ w hI (hE.putE _ nil_tup) (by rw [put_defers]; exact hd)
  · cases hv

theorem any_sound {C : Cfg} (hCP : C.P = P) (hC : CallOk P C.call) {md : Region.Mode} {ops : Array Oper} {Qe : List HV → Prop} {Q : Exit → Act → World → Prop}
    (hQ : ∀ (e' : List HV) (a' : Act) (w' : World) (G' : Gh), Qe e' → Inv P w0 S0 G' st w' → RepE G' w' e' a' → a'.defers = [] → Q .normal a' w') :
    ∀ (fuel : Nat) (listed : Array Bool) (e : List HV) (a : Act) (w : World) (G : Gh), Inv P w0 S0 G st w → RepE G w e a → a.defers = [] → anyE C md ops st Qe fuel listed e → wpAny P md ops Q fuel listed a w := by
  intro fuel
  induction fuel with
  | zero => intro listed e a w G hI hE hd h; exact ⟨h.1, hQ _ _ _ _ h.2 hI hE hd⟩
  | succ fuel ih =>
    intro listed e a w G hI hE hd h
    refine ⟨fun h0 => hQ _ _ _ _ (h.1 h0) hI hE hd, fun i hi => ?_⟩
    obtain ⟨o, v, ho, hv, hn⟩ := h.2 i hi
    exact wpOp_of hCP hC ho hI hE hd hv fun G' a' w' h1 h2 h3 => ih _ _ _ _ _ h1 h2 h3 hn

/-- A drawn region. -/
theorem region_draw {β : Type} {C : Cfg} (hCP : C.P = P) (hC : CallOk P C.call) (hm : P.follows .mixedOrders = true) {id : Nat} {ops : Array Oper} (hl : Region.lexFrom .any ops ops.size 0 (Array.replicate ops.size false) = true) {K : List HV → List Slot → Option β} {r : β}
    {Q : Exit → Act → World → Prop} (hI : Inv P w0 S0 G st w) (hE : RepE G w e a) (hd : a.defers = []) (hk : evOps C true ops ops.toList e st K = some r)
    (hQ : ∀ (e' : List HV) (a' : Act) (w' : World) (G' : Gh), K e' st = some r → Inv P w0 S0 G' st w' → RepE G' w' e' a' → a'.defers = [] → Q .normal a' w') : (Code.region id ops true).wp P Q a w := by
  refine wp_region_any hm ?_
  obtain ⟨h1, g⟩ := hI.drew
  refine any_sound hCP hC hQ ops.size _ e a _ G h1 (RepE.mono (G := G) (G' := G) g (fun _ _ h => h) (fun _ _ h => h) hE) hd ?_
  have := anyE_lex (C := C) (md := .any) (ops := ops) (st := st) ops.toList 0 (Array.replicate ops.size false) e (by simp) (by simpa using hl) (evOps_text _ _ hk)
  simpa using this

/-- A region in the text's order. -/
theorem ops_sound {β : Type} {C : Cfg} (hCP : C.P = P) (hC : CallOk P C.call) {q : Bool} {ops : Array Oper} {K : List HV → List Slot → Option β} {r : β} {Q : Exit → Act → World → Prop}
    (hQ : ∀ (e' : List HV) (st' : List Slot) (a' : Act) (w' : World) (G' : Gh), K e' st' = some r → Inv P w0 S0 G' st' w' → RepE G' w' e' a' → a'.defers = [] → Q .normal a' w') :
    ∀ (l : List Oper) (k : Nat) (e : List HV) (st : List Slot) (a : Act) (w : World) (G : Gh), (∀ j, l[j]? = ops[k + j]?) → Inv P w0 S0 G st w → RepE G w e a → a.defers = [] → evOps C q ops l e st K = some r → wpOps P ops Q (List.range' k l.length) a w := by
  intro l
  induction l with
  | nil => intro k e st a w G _ hI hE hd hk; exact hQ _ _ _ _ _ hk hI hE hd
  | cons o l ih =>
    intro k e st a w G hl hI hE hd hk
    have h0 : ops[k]? = some o := by simpa using (hl 0).symm
    have hl' : ∀ j, l[j]? = ops[k + 1 + j]? := fun j => by have := hl (j + 1); simpa [Nat.add_assoc, Nat.add_comm 1 j] using this
    have step : ∀ e, RepE G w e a → (evOp C q o e st fun v e st => put e o.dst v fun e => evOps C q ops l e st K) = some r → o.wp P a w (wpOps P ops Q (List.range' (k + 1) l.length)) Q := by
      intro e hE h
      refine Oper.wp_mono ?_ (evOp_sound hCP hC hI hE h)
      rintro a' w' ⟨hv', u, e', st', G', h1, h2, h3, h4, h5, _, _⟩
      simp only [put_eq] at h1
      have hE' := h4.putE o.dst h5
      rw [← h2] at hE'
      exact ih (k + 1) _ st' a' w' G' hl' h3 hE' (by rw [h2, put_defers]; exact hd) h1
    have skip : ∀ e, RepE G w e a → (put e o.dst (.tup []) fun e => evOps C q ops l e st K) = some r → wpOps P ops Q (List.range' (k + 1) l.length) (a.put o.dst Go.undef) w := by
      intro e hE h
      rw [put_eq] at h
      exact ih (k + 1) _ st _ w G hl' hI (hE.putE o.dst (h := .tup []) (v := Go.undef) nil_tup) (by rw [put_defers]; exact hd) h
    rw [List.length_cons, List.range'_succ, wpOps_cons]
    unfold wpOp
    simp only [h0]
    have fin : ∀ b, Region.wanted o (yielded ops a.tmps) = b → (b = true → o.wp P a w (wpOps P ops Q (List.range' (k + 1) l.length)) Q) → (b = false → wpOps P ops Q (List.range' (k + 1) l.length) (a.put o.dst Go.undef) w) →
        if Region.wanted o (yielded ops a.tmps) = true then o.wp P a w (wpOps P ops Q (List.range' (k + 1) l.length)) Q ∨ (o.asks P a w ∧ LetsOut Q) else wpOps P ops Q (List.range' (k + 1) l.length) (a.put o.dst Go.undef) w := by
      intro b hb h1 h2
      rw [hb]
      cases b with
      | true => exact .inl (h1 rfl)
      | false => exact h2 rfl
    unfold evOps at hk
    split at hk
    · rename_i hg
      have hw : want ops o e = some true := by unfold want; rw [hg]
      exact fin true (wanted_of hE hw) (fun _ => step e hE hk) (fun h => by cases h)
    · rename_i j wt hg
      split at hk
      · rename_i oj hj
        split at hk
        · rename_i d hdd
          split at hk
          · rename_i b hb
            have hw : want ops o e = some (b == wt) := by unfold want; simp only [hg, hj, hdd, hb]
            have he : e.set d (.bool b) = e := set_same hb
            refine fin _ (wanted_of hE hw) ?_ ?_
            · intro hbw
              rcases br_some hk with ⟨h1, h2⟩ | ⟨h1, h2⟩
              · subst h1
                rw [setK_eq, he] at h2
                cases wt with
                | true => rw [brs_eq, br_true] at h2; exact step e hE h2
                | false => cases hbw
              · subst h1
                rw [setK_eq, he] at h2
                cases wt with
                | true => cases hbw
                | false => rw [brs_eq, br_false] at h2; exact step e hE h2
            · intro hbw
              rcases br_some hk with ⟨h1, h2⟩ | ⟨h1, h2⟩
              · subst h1
                rw [setK_eq, he] at h2
                cases wt with
                | true => cases hbw
                | false => rw [brs_eq, br_false] at h2; exact skip e hE h2
              · subst h1
                rw [setK_eq, he] at h2
                cases wt with
                | true => rw [brs_eq, br_true] at h2; exact skip e hE h2
                | false => cases hbw
          · rename_i hb
            have hw : want ops o e = some false := by unfold want; simp only [hg, hj, hdd, hb]
            exact fin false (wanted_of hE hw) (fun h => by cases h) (fun _ => skip e hE hk)
          · cases hk
        · cases hk
      · cases hk

theorem region_text {β : Type} {C : Cfg} (hCP : C.P = P) (hC : CallOk P C.call) {q : Bool} {id : Nat} {ops : Array Oper} {K : List HV → List Slot → Option β} {r : β}
    {Q : Exit → Act → World → Prop} (hI : Inv P w0 S0 G st w) (hE : RepE G w e a) (hd : a.defers = []) (hk : evOps C q ops ops.toList e st K = some r)
    (hQ : ∀ (e' : List HV) (st' : List Slot) (a' : Act) (w' : World) (G' : Gh), K e' st' = some r → Inv P w0 S0 G' st' w' → RepE G' w' e' a' → a'.defers = [] → Q .normal a' w') : (Code.region id ops false).wp P Q a w := by
  refine wp_region ?_
  have := ops_sound hCP hC hQ ops.toList 0 e st a w G (by simp) hI hE hd hk
  rw [List.range_eq_range']
  simpa using this
end
end Go.Eng
end

section
namespace Go.Eng
open Go.RowKit
set_option linter.unusedSimpArgs false
set_option linter.unusedVariables false

/-! ### what a round of a loop leaves behind -/
section
variable {P : Program} {w0 : World} {S0 : Nat → Nat → Prop} {G : Gh} {st : List Slot} {w : World} {a : Act} {e : List HV}

def cutG (G : Gh) (n : Nat) : Gh := ⟨G.S, fun r g => G.R r g ∧ r < n, fun t v => G.T t v ∧ t < n⟩

theorem Inv.cut (h : Inv P w0 S0 G st w) (n : Nat) : Inv P w0 S0 (cutG G n) (st.take n) w where
  below := h.below
  slots := fun id s hs => by
    rw [List.getElem?_take] at hs
    split at hs
    · rename_i hlt
      have := h.slots id s hs
      cases s with
      | var m cs => obtain ⟨g, t, cells, h1, rest⟩ := this; exact ⟨g, t, cells, ⟨h1, hlt⟩, rest⟩
      | row m sz n f => obtain ⟨g, t, cells, h1, rest⟩ := this; exact ⟨g, t, cells, ⟨h1, hlt⟩, rest⟩
      | tok el => obtain ⟨v, n, size, xs, h1, rest⟩ := this; exact ⟨v, n, size, xs, ⟨h1, hlt⟩, rest⟩
    · cases hs
  rlt := fun r g hr => by have := h.rlt r g hr.1; have := hr.2; simp; omega
  tlt := fun t v ht => by have := h.tlt t v ht.1; have := ht.2; simp; omega
  rfun := fun r g g' h1 h2 => h.rfun r g g' h1.1 h2.1
  tfun := fun t v v' h1 h2 => h.tfun t v v' h1.1 h2.1
  rinj := fun r r' g h1 h2 => h.rinj r r' g h1.1 h2.1
  tinj := fun t t' v v' g h1 h2 h3 h4 => h.tinj t t' v v' g h1.1 h2.1 h3 h4
  rt := fun r t v g h1 h2 h3 => h.rt r t v g h1.1 h2.1 h3
  rnew := fun r g hr => h.rnew r g hr.1
  tnew := fun t v g ht hv => h.tnew t v g ht.1 hv
  s0 := h.s0
  snew := h.snew
  slt := h.slt

theorem drop_rep (n : Nat) (h : HV) (v : Value) (k : RepV G w h v) : RepV (cutG G n) w (drop n h) v := by
  cases h with
  | own t sz m f =>
    unfold drop
    by_cases hlt : t < n
    · simp only [hlt, decide_true, cond_true]; exact ⟨⟨k.1, hlt⟩, k.2⟩
    · simp only [hlt, decide_false, cond_false]; exact k.2
  | arr r sz lo m =>
    unfold drop
    by_cases hlt : r < n
    · simp only [hlt, decide_true, cond_true]; obtain ⟨g, A, c, h1, rest⟩ := k; exact ⟨g, A, c, ⟨h1, hlt⟩, rest⟩
    · simp only [hlt, decide_false, cond_false]; trivial
  | var r off =>
    unfold drop
    by_cases hlt : r < n
    · simp only [hlt, decide_true, cond_true]; obtain ⟨g, h1, rest⟩ := k; exact ⟨g, ⟨h1, hlt⟩, rest⟩
    · simp only [hlt, decide_false, cond_false]; trivial
  | elt r sz i off =>
    unfold drop
    by_cases hlt : r < n
    · simp only [hlt, decide_true, cond_true]; obtain ⟨g, h1, rest⟩ := k; exact ⟨g, ⟨h1, hlt⟩, rest⟩
    · simp only [hlt, decide_false, cond_false]; trivial
  | _ => exact k
end

def ExR : Ex → Exit → Prop
  | .normal, .normal => True
  | .exit i, .exit j => i = j
  | .ret, .ret => True
  | _, _ => False

def CPost {β : Type} (P : Program) (w0 : World) (S0 : Nat → Nat → Prop) (K : Ex → List HV → List Slot → Option β) (r : β) : Exit → Act → World → Prop := fun x a w =>
  ∃ ex G e st, ExR ex x ∧ a.defers = [] ∧ K ex e st = some r ∧ Inv P w0 S0 G st w ∧ RepE G w e a

section
variable {P : Program} {w0 : World} {S0 : Nat → Nat → Prop}

theorem CPost.at {β : Type} {K : Ex → List HV → List Slot → Option β} {r : β} {ex : Ex} {x : Exit} {G : Gh} {e : List HV} {st : List Slot} {a : Act} {w : World} (h : ExR ex x) (hd : a.defers = []) (hk : K ex e st = some r) (hI : Inv P w0 S0 G st w) (hE : RepE G w e a) : CPost P w0 S0 K r x a w :=
  ⟨ex, G, e, st, h, hd, hk, hI, hE⟩

theorem evC_sound {C : Cfg} (hCP : C.P = P) (hC : CallOk P C.call) (hm : P.follows .mixedOrders = true) {fuel : Nat} : ∀ (c : Code), lexC c = true → ∀ (β : Type) (K : Ex → List HV → List Slot → Option β) (r : β) (G : Gh) (e : List HV) (st : List Slot) (a : Act) (w : World),
    Inv P w0 S0 G st w → RepE G w e a → a.defers = [] → evC C fuel c β e st K = some r → c.wp P (CPost P w0 S0 K r) a w := by
  intro c
  induction c with
  | skip => intro _ β K r G e st a w hI hE hd hk; exact wp_skip (.at (ex := .normal) trivial hd hk hI hE)
  | exit id => intro _ β K r G e st a w hI hE hd hk; exact wp_exit (.at (ex := .exit id) rfl hd hk hI hE)
  | ret => intro _ β K r G e st a w hI hE hd hk; exact wp_ret (.at (ex := .ret) trivial hd hk hI hE)
  | region id ops draw =>
    intro hl β K r G e st a w hI hE hd hk
    unfold evC at hk
    cases draw with
    | false => exact region_text hCP hC hI hE hd hk fun e' st' a' w' G' h1 h2 h3 h4 => .at (ex := .normal) trivial h4 h1 h2 h3
    | true => exact region_draw hCP hC hm hl hI hE hd hk fun e' a' w' G' h1 h2 h3 h4 => .at (ex := .normal) trivial h4 h1 h2 h3
  | seq x y ihx ihy =>
    intro hl β K r G e st a w hI hE hd hk
    simp only [lexC, Bool.and_eq_true] at hl
    unfold evC at hk
    refine wp_seq (wp_mono (ihx hl.1 β _ r G e st a w hI hE hd hk) ?_)
    rintro x' a' w' ⟨ex, G', e', st', h1, h2, h3, h4, h5⟩
    cases ex with
    | normal =>
      cases x' <;> first | cases h1 | skip
      exact ihy hl.2 β K r G' e' st' a' w' h4 h5 h2 h3
    | exit i =>
      cases x' <;> first | (cases h1; done) | skip
      exact .at (ex := .exit i) h1 h2 h3 h4 h5
    | ret =>
      cases x' <;> first | (cases h1; done) | skip
      exact .at (ex := .ret) trivial h2 h3 h4 h5
  | cond o x y ihx ihy =>
    intro hl β K r G e st a w hI hE hd hk
    simp only [lexC, Bool.and_eq_true] at hl
    unfold evC at hk
    split at hk
    · rename_i t ht
      have hv := hE.ev o
      rw [ht] at hv
      have hv := RepV.bool_inv hv
      rcases br_some hk with ⟨h1, h2⟩ | ⟨h1, h2⟩
      · subst h1; exact wp_cond_true hv (ihx hl.1 β K r G e st a w hI hE hd h2)
      · subst h1; exact wp_cond_false hv (ihy hl.2 β K r G e st a w hI hE hd h2)
    · cases hk
  | block id x ih =>
    intro hl β K r G e st a w hI hE hd hk
    unfold evC at hk
    refine wp_block (wp_mono (ih hl β _ r G e st a w hI hE hd hk) ?_)
    rintro x' a' w' ⟨ex, G', e', st', h1, h2, h3, h4, h5⟩
    cases ex with
    | normal =>
      cases x' <;> first | cases h1 | skip
      exact .at (ex := .normal) trivial h2 h3 h4 h5
    | exit i =>
      cases x' <;> first | (cases h1; done) | skip
      rename_i j
      have hij : i = j := h1
      subst hij
      show if i = id then CPost P w0 S0 K r Exit.normal a' w' else CPost P w0 S0 K r (Exit.exit i) a' w'
      rcases br_some h3 with ⟨h6, h7⟩ | ⟨h6, h7⟩
      · have : i = id := by simpa using h6
        rw [if_pos this]
        exact .at (ex := .normal) trivial h2 h7 h4 h5
      · have : i ≠ id := by simpa using h6
        rw [if_neg this]
        exact .at (ex := .exit i) rfl h2 h7 h4 h5
    | ret =>
      cases x' <;> first | (cases h1; done) | skip
      exact .at (ex := .ret) trivial h2 h3 h4 h5
  | loop x ih =>
    intro hl β K r G e st a w hI hE hd hk
    unfold evC at hk
    obtain ⟨ex, e1, st1, hit, hk⟩ := bnd3_eq hk
    have key : ∀ (m : Nat) (n0 : Nat) (G : Gh) (e : List HV) (st : List Slot) (a : Act) (w : World), Inv P w0 S0 G st w → RepE G w e a → a.defers = [] →
        iter (fun e st => evC C fuel x Out e st fun x e st => some (x, e, st)) n0 m e st = some (ex, e1, st1) → Code.rounds P x (CPost P w0 S0 K r) m a w := by
      intro m
      induction m with
      | zero => intro n0 G e st a w _ _ _ h; cases h
      | succ m ihm =>
        intro n0 G e st a w hI hE hd h
        unfold iter at h
        obtain ⟨ex2, e2, st2, h1, h2⟩ := bnd3_eq h
        rw [rounds_succ]
        refine wp_mono (ih hl Out _ _ G e st a w hI hE hd h1) ?_
        rintro x' a' w' ⟨ex', G', e', st', k1, k2, k3, k4, k5⟩
        injection k3 with k3
        cases k3
        cases ex2 with
        | normal =>
          cases x' <;> first | cases k1 | skip
          simp only [mapK_eq] at h2
          exact ihm n0 (cutG G' n0) (e2.map (drop n0)) (st2.take n0) a' w' (k4.cut n0) (k5.map (drop n0) (fun h v k => drop_rep n0 h v k)) k2 h2
        | exit i =>
          cases x' <;> first | (cases k1; done) | skip
          injection h2 with h2
          cases h2
          exact .at (ex := .exit i) k1 k2 hk k4 k5
        | ret =>
          cases x' <;> first | (cases k1; done) | skip
          injection h2 with h2
          cases h2
          exact .at (ex := .ret) trivial k2 hk k4 k5
    exact wp_loop_rounds fuel (key fuel st.length G e st a w hI hE hd hit)
  | _ => intro _ β K r G e st a w hI hE hd hk; unfold evC at hk; cases hk

def oneRes (tmps : Array Value) : ResultVar → Sem Value
  | .tmp t => pure (tmps.getD t Go.undef)
  | .cell ad t => do loadVar t (← asAddr (tmps.getD ad Go.undef))

theorem resH_sound {rv : ResultVar} {G : Gh} {e : List HV} {st : List Slot} {a : Act} {w : World} {K : HV → List Slot → Option HV} {r : HV} (hI : Inv P w0 S0 G st w) (hE : RepE G w e a) (hk : resH P rv e st K = some r) :
    ∃ c u st' S', K c st' = some r ∧ Inv P w0 S0 { G with S := S' } st' w ∧ Gro G.S w S' w ∧ RepC S' w c u ∧ (oneRes a.tmps rv).run P w = .ok u w := by
  cases rv with
  | tmp t =>
    obtain ⟨c, st', S', h1, h2, h3, h4, _, _⟩ := toC_sound hI (hE.2 t) hk
    exact ⟨c, _, st', S', h1, h2, h3, h4, rfl⟩
  | cell ad t =>
    simp only [resH] at hk
    have hx := hE.2 ad
    split at hk
    · rename_i cs off h
      rw [h] at hx
      obtain ⟨A, cells, he, hc, hat⟩ := RepC.ptr_inv hx
      obtain ⟨hv, u, h1, h2, h3⟩ := run_loadVar (w := w) (ad := A) hk hc (fun j u hj => by
        obtain ⟨A', e', h2, _⟩ := hat j u hj
        injection e' with e'
        subst e'
        simpa using h2)
      exact ⟨hv, u, st, G.S, h1, hI, Gro.refl _ _, h2, by simp only [oneRes, he, Sem.run_bind]; simpa [asAddr] using h3⟩
    · rename_i r' off h
      rw [h] at hx
      obtain ⟨g, hR, he⟩ := hx
      split at hk
      · rename_i m cs hs
        obtain ⟨g', t', cells, k1, k2, k3, k4, _, _⟩ := hI.slots _ _ hs
        have hgg := hI.rfun _ _ _ hR k1
        subst hgg
        obtain ⟨hv, u, h1, h2, h3⟩ := run_loadVar (w := w) (ad := ⟨g, 0, none⟩) hk k4 (fun j u hj => by
          rw [addr_add, cell_at_block k3, Nat.zero_add]
          simpa using hj)
        rw [addr_add, Nat.zero_add] at h3
        exact ⟨hv, u, st, G.S, h1, hI, Gro.refl _ _, h2, by simp only [oneRes, he, Sem.run_bind]; simpa [asAddr] using h3⟩
      · cases hk
    · cases hk

theorem ressH_sound {a : Act} {w : World} : ∀ {l : List ResultVar} {G : Gh} {e : List HV} {st : List Slot} {K : List HV → Option HV} {r : HV}, Inv P w0 S0 G st w → RepE G w e a → ressH P l e st K = some r →
    ∃ cs us st' S', K cs = some r ∧ Inv P w0 S0 { G with S := S' } st' w ∧ Gro G.S w S' w ∧ RepTs S' w cs us ∧
      (l.mapM (oneRes a.tmps)).run P w = .ok us w := by
  intro l
  induction l with
  | nil => intro G e st K r hI hE hk; exact ⟨[], [], st, G.S, hk, hI, Gro.refl _ _, .nil, by simp⟩
  | cons x l ih =>
    intro G e st K r hI hE hk
    obtain ⟨c, u, st1, S1, h1, h2, h3, h4, h5⟩ := resH_sound hI hE hk
    obtain ⟨cs, us, st2, S2, k1, k2, k3, k4, k5⟩ := ih (G := { G with S := S1 }) h2 (RepE.mono (G := G) (G' := { G with S := S1 }) h3 (fun _ _ h => h) (fun _ _ h => h) hE) h1
    refine ⟨c :: cs, u :: us, st2, S2, k1, k2, h3.trans k3, .cons _ _ _ _ (h4.mono k3) k4, ?_⟩
    rw [List.mapM_cons]
    simp only [Sem.run_bind, h5, Result.andThen_ok, k5, Sem.run_pure]

theorem body_sound {C : Cfg} (hCP : C.P = P) (hC : CallOk P C.call) (hm : P.follows .mixedOrders = true) {fuel f : Nat} {fn : Func} (hf : P.funcs[f]? = some fn) (hl : lexF P f = true) {args : List HV} {r : HV} (hr : body C fuel fn args = some r)
    (S : Nat → Nat → Prop) (w : World) (vs : List Value) (hS : ∀ b o, S b o → b < w.heap.size) (ha : RepTs S w args vs) : Calls P f vs.toArray w (Post S w r) := by
  unfold body at hr
  split at hr
  rotate_left
  · cases hr
  rename_i c hc
  unfold lexF at hl
  simp only [hf, hc] at hl
  refine calls_of_wp hf hc ?_
  have hI := Inv.start P w S hS
  have hlen : vs.length = args.length := ha.length
  have hE : RepE ⟨S, fun _ _ => False, fun _ _ => False⟩ w (args ++ List.replicate (fn.ntmps - args.length) .undef) { tmps := vs.toArray ++ Array.replicate (fn.ntmps - vs.toArray.size) undef, defers := [] } := by
    refine ⟨by simp [hlen], fun i => ?_⟩
    by_cases hi : i < args.length
    · obtain ⟨v, h1, h2⟩ := ha.at (List.getElem?_eq_getElem hi)
      have e1 : (args ++ List.replicate (fn.ntmps - args.length) HV.undef).getD i .undef = args[i] := by simp [List.getD_eq_getElem?_getD, List.getElem?_append_left hi, hi]
      have e2 : (vs.toArray ++ Array.replicate (fn.ntmps - vs.toArray.size) Go.undef).getD i Go.undef = v := by
        have : i < vs.length := by omega
        rw [Array.getD_eq_getD_getElem?, Array.getElem?_append_left (by simpa using this)]
        simp [h1]
      simp only [e1, e2]
      exact RepV.of h2
    · have e1 : (args ++ List.replicate (fn.ntmps - args.length) HV.undef).getD i .undef = .undef := by
        rw [List.getD_eq_getElem?_getD, List.getElem?_append_right (by omega), List.getElem?_replicate]
        split <;> rfl
      rw [e1]; trivial
  refine wp_mono (evC_sound hCP hC hm c hl HV _ r _ _ [] _ w hI hE rfl hr) ?_
  rintro x a' w' ⟨ex, G', e', st', h1, h2, h3, h4, h5⟩
  have fin : retH C.P fn.results.toList e' st' = some r → a'.defers = [] ∧ ∃ v, (results fn a'.tmps).run P w' = .ok v w' ∧ Post S w r (.returned v) w' := by
    intro h
    subst hCP
    refine ⟨h2, ?_⟩
    unfold retH at h
    obtain ⟨cs, us, st2, S2, k1, k2, k3, k4, k5⟩ := ressH_sound h4 h5 h
    have hrun : (results fn a'.tmps).run C.P w' = .ok (if h : us.toArray.size = 1 then us.toArray[0] else .tuple us.toArray) w' := by
      have hmap : (fn.results.mapM (oneRes a'.tmps)).run C.P w' = .ok us.toArray w' := by
        rw [Array.mapM_eq_mapM_toList]
        simp [k5]
      have hfun : results fn a'.tmps = (do let vs ← fn.results.mapM (oneRes a'.tmps); pure (if h : vs.size = 1 then vs[0] else .tuple vs)) := by
        unfold results
        congr 1
      rw [hfun]
      simp only [Sem.run_bind, hmap, Result.andThen_ok, Sem.run_pure]
    refine ⟨_, hrun, ?_⟩
    have hpost : ∀ v, RepR S2 w' r v → Post S w r (.returned v) w' := fun v hv => ⟨v, S2, rfl, k2.below, k2.s0, k2.snew, k2.slt, hv⟩
    apply hpost
    cases cs with
    | nil =>
      injection k1 with k1
      subst k1
      have := k4.length
      cases us with
      | nil => exact ⟨[], rfl, .nil⟩
      | cons => cases this
    | cons c1 cs => cases cs with
      | nil =>
        injection k1 with k1
        subst k1
        cases us with
        | nil => cases k4
        | cons u us => cases us with
          | cons => cases k4 with | cons _ _ _ _ _ h => cases h
          | nil => cases k4 with | cons _ _ _ _ h _ => cases c1 <;> first | exact h | cases h
      | cons c2 cs =>
        injection k1 with k1
        subst k1
        have := k4.length
        have hne : ¬ us.toArray.size = 1 := by simp [this]
        rw [dif_neg hne]
        exact ⟨us, rfl, k4⟩
  cases ex with
  | normal => cases x <;> first | (cases h1; done) | skip
              exact fin h3
  | exit i => cases h3
  | ret => cases x <;> first | (cases h1; done) | skip
           exact fin h3

def ExtOk (P : Program) (ext : Ext) : Prop := ∀ f g, ext f = some g → ∀ call, CallOk P call → ∀ args r, g call args = some r →
  ∀ (S : Nat → Nat → Prop) (w : World) (vs : List Value), (∀ b o, S b o → b < w.heap.size) → RepTs S w args vs → Calls P f vs.toArray w (Post S w r)

theorem callP_sound {ext : Ext} {fs : List Nat} (hx : ExtOk P ext) (hm : P.follows .mixedOrders = true) (hl : fs.all (lexF P) = true) : ∀ k, CallOk P (callP P ext fs k) := by
  intro k
  induction k with
  | zero => intro f args r h; cases h
  | succ k ih =>
    intro f args r h S w vs hS ha
    unfold callP at h
    split at h
    · rename_i g hg
      exact hx f g hg _ ih args r h S w vs hS ha
    · split at h
      · rename_i hin
        have hlf := List.all_eq_true.1 hl f (by simpa using hin)
        split at h
        · rename_i fn hf
          exact body_sound rfl ih hm hf hlf h S w vs hS ha
        · cases h
      · cases h
end
end Go.Eng
end

section
namespace Go.Eng
open Go.RowKit Go.ChangeShapes Go.WideShapes
set_option linter.unusedSimpArgs false
set_option linter.unusedVariables false

/-- Every cell of a world. -/
def AllS (w : World) : Nat → Nat → Prop := fun b _ => b < w.heap.size

theorem cell_lt {w : World} {a : Addr} {v : Value} (h : w.cell? a = some v) : a.block < w.heap.size := by
  unfold World.cell? at h
  rcases Nat.lt_or_ge a.block w.heap.size with hlt | hge
  · exact hlt
  · simp [Array.getElem?_eq_none hge] at h

/-- What a type's reading tells of it. -/
def Dec (P : Program) (t : TypeId) {α : Type} (enc : α → List HV) (good : α → Prop) : Prop := ∀ (H : Type) (en : TypeId × Value → H) (w : World) (fuel : Nat) (cs : List Value) (x : DataW H × List MemPlace),
  DataW.trod en P w 0 (fun _ => true) true fuel t cs = some x → (x.1.weights P t).all (· ≤ reachBytes) = true → ∃ y, good y ∧ RepCs (AllS w) w (enc y) cs

section
variable {P : Program}

def eInt (k : IntKind) (n : Int) : List HV := [.int k n]
def eBool (b : Bool) : List HV := [.bool b]
def eStr (s : ByteArray) : List HV := [.str s]
def gInt (k : IntKind) (n : Int) : Prop := (Lit.int k n).wf = true
def gBool (_ : Bool) : Prop := True
def gStr (s : ByteArray) : Prop := s.size ≤ 140737488351232
theorem Dec.int {t : TypeId} {k : IntKind} (hu : P.underlying t = some (.int k)) : Dec P t (eInt k) (gInt k) := by
  intro H en w fuel cs x h _
  obtain ⟨n, rfl, _, hw⟩ := DataW.trod_int hu h
  exact ⟨n, hw, .single (.int _ _) rfl⟩
theorem Dec.bool {t : TypeId} (hu : P.underlying t = some .bool) : Dec P t eBool gBool := by
  intro H en w fuel cs x h _
  obtain ⟨b, rfl, _⟩ := DataW.trod_bool hu h
  exact ⟨b, trivial, .single (.bool _) rfl⟩
theorem Dec.str {t : TypeId} (hu : P.underlying t = some .string) : Dec P t eStr gStr := by
  intro H en w fuel cs x h hw
  obtain ⟨s, rfl, rfl, _⟩ := DataW.trod_string hu h
  refine ⟨s, ?_, .single (.str _) rfl⟩
  simp only [DataW.weights, List.all_cons, List.all_nil, Bool.and_true, decide_eq_true_eq, reachBytes, Array.length_toList] at hw
  have h2 : s.size ≤ 140737488351232 := of_decide_eq_true hw
  exact h2

/-- A list as its elements' cells. -/
def encL {α : Type} [Inhabited α] (sz : Nat) (enc : α → List HV) (l : List α) : HV := .lst sz l.length (fun i => enc (l.getD i default))
def eList {α : Type} [Inhabited α] (sz : Nat) (enc : α → List HV) (l : List α) : List HV := [encL sz enc l]
def gList {α : Type} (good : α → Prop) (bytes : Nat) (l : List α) : Prop := (∀ x ∈ l, good x) ∧ l.length * bytes ≤ 140737488351232

theorem weightsAll_at {H : Type} {e : TypeId} : ∀ {l : List (DataW H)}, (DataW.weightsAll P e l).all (· ≤ reachBytes) = true → ∀ d ∈ l, (d.weights P e).all (· ≤ reachBytes) = true
  | [], _, d, hd => by cases hd
  | y :: l, h, d, hd => by
    simp only [DataW.weightsAll, List.all_append, Bool.and_eq_true] at h
    rcases List.mem_cons.1 hd with rfl | hd
    · exact h.1
    · exact weightsAll_at h.2 d hd

theorem Dec.list {α : Type} [Inhabited α] {t e : TypeId} {sz by_ : Nat} {enc : α → List HV} {good : α → Prop} (hu : P.underlying t = some (.slice e)) (hsz : P.cellsOf e = sz) (hby : P.bytesOf e = by_) (hd : Dec P e enc good) : Dec P t (eList sz enc) (gList good by_) := by
  intro H en w fuel cs x h hw
  subst hsz hby
  rcases DataW.trod_slice hu h with ⟨rfl, rfl⟩ | ⟨a, len, cap, elems, rest, n, rfl, rfl, rfl, hb, hl, hm, hlen, helem, _, _⟩
  · refine ⟨[], ⟨?_, ?_⟩, .single (.lst _ 0 _ none 0 (fun _ => []) (fun i hi => by cases hi) (fun i hi => by cases hi) (fun i hi => by cases hi) (Nat.le_refl _)) rfl⟩
    · intro x hx; cases hx
    · simp
  · simp only [DataW.weights, hu, List.all_cons, List.all_append, Bool.and_eq_true, decide_eq_true_eq, List.length_map, reachBytes] at hw
    obtain ⟨hw0, hw1, _⟩ := hw
    have each : ∀ i, i < len → ∃ (y : α) (c : List Value), good y ∧ RepCs (AllS w) w (enc y) c ∧ c.length = P.cellsOf e ∧ ∀ j u, c[j]? = some u → w.cell? (a.add (i * P.cellsOf e + j)) = some u := by
      intro i hi
      have hei := helem i hi
      have hget : elems[i]? = some elems[i] := List.getElem?_eq_getElem (by omega)
      rw [hget] at hei
      obtain ⟨c, hc, ht⟩ := Option.bind_eq_some_iff.1 hei
      obtain ⟨_, hcl, hcell⟩ := World.cells?_some hc
      obtain ⟨y, hy, hr⟩ := hd H en w n c _ ht (weightsAll_at hw1 _ (List.mem_map.2 ⟨elems[i], List.getElem_mem _, rfl⟩))
      refine ⟨y, c, hy, hr, hcl, fun j u hj => ?_⟩
      have hjl := (List.getElem?_eq_some_iff.1 hj).1
      have := hcell j (by omega)
      rw [add_add_] at this
      rw [this]; exact hj
    let X : Nat → α := fun i => if h : i < len then (each i h).choose else default
    have hX : ∀ i (hi : i < len), X i = (each i hi).choose := fun i hi => by simp only [X, dif_pos hi]
    let Cc : Nat → List Value := fun i => if h : i < len then (each i h).choose_spec.choose else []
    have hC : ∀ i (hi : i < len), good (X i) ∧ RepCs (AllS w) w (enc (X i)) (Cc i) ∧ (Cc i).length = P.cellsOf e ∧ ∀ j u, (Cc i)[j]? = some u → w.cell? (a.add (i * P.cellsOf e + j)) = some u := fun i hi => by
      rw [hX i hi]
      simp only [Cc, dif_pos hi]
      exact (each i hi).choose_spec.choose_spec
    have hgd : ∀ i, i < len → ((List.range len).map X).getD i default = X i := fun i hi => by simp [List.getD_eq_getElem?_getD, hi]
    refine ⟨(List.range len).map X, ⟨?_, ?_⟩, .single ?_ rfl⟩
    · intro y hy
      obtain ⟨i, hi, rfl⟩ := List.mem_map.1 hy
      exact (hC i (List.mem_range.1 hi)).1
    · rw [List.length_map, List.length_range, ← hlen]
      exact Nat.le_trans (Nat.mul_le_mul_right _ (Nat.le_add_right _ _)) (of_decide_eq_true hw0)
    · unfold encL
      rw [List.length_map, List.length_range]
      refine .lst _ len _ (some a) cap Cc (fun i hi => ?_) (fun i hi => (hC i hi).2.2.1) (fun i hi j u hj => ⟨a, rfl, (hC i hi).2.2.2 j u hj, ?_⟩) hl
      · simp only [hgd i hi]; exact (hC i hi).2.1
      · have h1 := cell_lt ((hC i hi).2.2.2 j u hj)
        rw [add_block_] at h1
        exact h1

/-! ### structs -/
def DecFs (P : Program) (fs : List Field) (k : Nat) {α : Type} (enc : α → List HV) (good : α → Prop) : Prop := ∀ (H : Type) (en : TypeId × Value → H) (w : World) (n : Nat) (cs : List Value) (xs : List (DataW H × List MemPlace)),
  xs.length = fs.length → (∀ (i : Nat) (f : Field), fs[i]? = some f → DataW.trod en P w 0 (fun _ => true) true n f.type ((cs.drop f.offset).take (P.cellsOf f.type)) = xs[i]?) →
  (DataW.weightsEach P (fs.map fun (f : Field) => f.type) (xs.map (·.1))).all (· ≤ reachBytes) = true → cs.length = k + (fs.map fun (f : Field) => P.cellsOf f.type).sum → ∃ y, good y ∧ RepCs (AllS w) w (enc y) (cs.drop k)

theorem DecFs.nil {k : Nat} : DecFs P [] k (fun (_ : Unit) => []) (fun _ => True) := by
  intro H en w n cs xs _ _ _ hl
  refine ⟨(), trivial, ?_⟩
  rw [List.drop_eq_nil_of_le (by simp at hl; omega)]
  exact .nil
theorem DecFs.cons {f : Field} {fs : List Field} {k : Nat} {α β : Type} {enc : α → List HV} {good : α → Prop} {enc' : β → List HV} {good' : β → Prop} (hf : f.offset = k) (hd : Dec P f.type enc good) (hs : DecFs P fs (k + P.cellsOf f.type) enc' good') :
    DecFs P (f :: fs) k (fun (x : α × β) => enc x.1 ++ enc' x.2) (fun x => good x.1 ∧ good' x.2) := by
  intro H en w n cs xs hxl hx hw hl
  cases xs with
  | nil => cases hxl
  | cons x xs =>
    simp only [List.map_cons, DataW.weightsEach, List.all_append, Bool.and_eq_true] at hw
    obtain ⟨y, hy, hr⟩ := hd H en w n _ x (hx 0 f rfl) hw.1
    obtain ⟨z, hz, hr'⟩ := hs H en w n cs xs (by simpa using hxl) (fun i g hg => hx (i + 1) g (by simpa using hg)) hw.2 (by simp at hl; omega)
    refine ⟨(y, z), ⟨hy, hz⟩, ?_⟩
    have : cs.drop k = (cs.drop k).take (P.cellsOf f.type) ++ cs.drop (k + P.cellsOf f.type) := by
      rw [← List.drop_drop, List.take_append_drop]
    rw [this]
    rw [hf] at hr
    exact hr.append hr'
theorem Dec.struct {t : TypeId} {fs : Array Field} {α β : Type} {enc : α → List HV} {good : α → Prop} {enc' : β → List HV} {good' : β → Prop} (hu : P.underlying t = some (.struct fs)) (hsz : P.cellsOf t = (fs.toList.map fun (f : Field) => P.cellsOf f.type).sum) (hs : DecFs P fs.toList 0 enc good)
    (mk : α → β) (hg : ∀ x, good x → good' (mk x)) (he : ∀ x, enc' (mk x) = enc x) : Dec P t enc' good' := by
  intro H en w fuel cs x h hw
  obtain ⟨xs, n, rfl, rfl, hl, hlen, hx⟩ := DataW.trod_struct hu h
  simp only [DataW.weights, hu] at hw
  obtain ⟨y, hy, hr⟩ := hs H en w n cs xs (by simpa using hlen) (fun i f hf => hx i f (by simpa using hf)) hw (by omega)
  exact ⟨mk y, hg y hy, by rw [he]; simpa using hr⟩

/-! ### arguments -/
/-- How a parameter's value is handed. -/
def Arg (P : Program) (t : TypeId) {α : Type} (enc : α → HV) (good : α → Prop) : Prop := ∀ (H : Type) (en : TypeId × Value → H) (w : World) (r : Reach) (b : Nat) (v : Value) (d : DataW H) (ps : List MemPlace),
  Value.okWide P w r b t v → DataW.Trod en P w 0 (fun _ => true) true t v d ps → (d.weights P t).all (· ≤ reachBytes) = true → ∃ y, good y ∧ RepC (AllS w) w (enc y) v

theorem Arg.one {t : TypeId} {α : Type} {enc : α → List HV} {enc' : α → HV} {good : α → Prop} (hd : Dec P t enc good) (he : ∀ x, enc x = [enc' x]) (hu : (match P.underlying t with | some (.int _) | some .bool | some .string | some (.slice _) => true | _ => false) = true) : Arg P t enc' good := by
  intro H en w r b v d ps hv ⟨fuel, ht⟩ hw
  have hcells : v.cells.toList = [v] := by
    split at hu <;> first | cases hu | skip
    · obtain ⟨n, rfl⟩ := okWide_int (by assumption) hv; rfl
    · obtain ⟨n, rfl⟩ := okWide_bool (by assumption) hv; rfl
    · obtain ⟨n, rfl⟩ := okWide_string (by assumption) hv; rfl
    · obtain ⟨a, l, c, rfl⟩ := okWide_slice (by assumption) hv; rfl
  obtain ⟨y, hy, hr⟩ := hd H en w fuel _ _ ht hw
  rw [hcells, he] at hr
  cases hr with | cons _ _ _ _ h _ _ => exact ⟨y, hy, h⟩
theorem Arg.struct {t : TypeId} {fs : Array Field} {α : Type} {enc : α → List HV} {good : α → Prop} (hd : Dec P t enc good) (hu : P.underlying t = some (.struct fs)) : Arg P t (fun x => .agg (enc x)) good := by
  intro H en w r b v d ps hv ⟨fuel, ht⟩ hw
  simp only [Value.okWide, hu] at hv
  obtain ⟨cs, rfl, _, _⟩ := hv
  obtain ⟨y, hy, hr⟩ := hd H en w fuel _ _ ht hw
  exact ⟨y, hy, by simpa [Value.cells] using RepC.agg _ _ hr⟩
end

/-- What a call that answers a bool leaves. -/
theorem calls_bool {P : Program} {ext : Ext} {fs : List Nat} (hx : ExtOk P ext) (hm : P.follows .mixedOrders = true) (hl : fs.all (lexF P) = true) {k f : Nat} {args : List HV} {b : Bool} (h : callP P ext fs k f args = some (.bool b)) {w : World} {vs : Array Value}
    (ha : RepTs (AllS w) w args vs.toList) : Calls P f vs w fun e w' => e = .returned (.bool b) ∧ Below w.heap.size w w' := by
  have := callP_sound hx hm hl k f args _ h (AllS w) w vs.toList (fun _ _ h => h) ha
  refine Calls.mono (by simpa using this) ?_
  rintro e w' ⟨v, S', rfl, hb, _, _, _, hr⟩
  have hr : RepC S' w' (.bool b) v := hr
  cases hr
  exact ⟨rfl, hb⟩

theorem weightsEach_cons {H : Type} {P : Program} {t : TypeId} {ts : List TypeId} {d : DataW H} {ds : List (DataW H)} (h : (DataW.weightsEach P (t :: ts) (d :: ds)).all (· ≤ reachBytes) = true) :
    (d.weights P t).all (· ≤ reachBytes) = true ∧ (DataW.weightsEach P ts ds).all (· ≤ reachBytes) = true := by
  simpa only [DataW.weightsEach, List.all_append, Bool.and_eq_true] using h
theorem trod_lts {H : Type} {en : TypeId × Value → H} {P : Program} {W : World} {t : TypeId} {v : Value} {d : DataW H} {p : List MemPlace} (k : DataW.Trod en P W 0 (fun _ => true) true t v d p) : ∀ x ∈ p, x.block < W.heap.size := by
  obtain ⟨m, hm⟩ := k; exact DataW.trod_lt m _ _ _ hm
end Go.Eng
end

section
namespace Go.Eng
variable {α β : Type}

/-- A step's answer is such a one. -/
def Giv (X : Option α) (Q : α → Prop) : Prop := ∃ a, X = some a ∧ Q a
theorem Giv.ok {a : α} {Q : α → Prop} (h : Q a) : Giv (some a) Q := ⟨a, rfl, h⟩
theorem Giv.mono {X : Option α} {Q Q' : α → Prop} (h : Giv X Q) (hq : ∀ a, Q a → Q' a) : Giv X Q' := let ⟨a, e, k⟩ := h; ⟨a, e, hq a k⟩
theorem Giv.t {c : Prop} [Decidable c] {x y : Option α} {Q : α → Prop} (h : c) (hx : Giv x Q) : Giv (br (decide c) x y) Q := by simp only [h, decide_true, br_t, hx]
theorem Giv.f {c : Prop} [Decidable c] {x y : Option α} {Q : α → Prop} (h : ¬ c) (hx : Giv y Q) : Giv (br (decide c) x y) Q := by simp only [h, decide_false, br_f, hx]
theorem Giv.tt {b : Bool} {x y : Option α} {Q : α → Prop} (h : b = true) (hx : Giv x Q) : Giv (br b x y) Q := by subst h; rwa [br_t]
theorem Giv.ff {b : Bool} {x y : Option α} {Q : α → Prop} (h : b = false) (hx : Giv y Q) : Giv (br b x y) Q := by subst h; rwa [br_f]
theorem Giv.b {b : Bool} {x y : Option α} {Q : α → Prop} (ht : b = true → Giv x Q) (hf : b = false → Giv y Q) : Giv (br b x y) Q := by
  cases b with
  | true => rw [br_t]; exact ht rfl
  | false => rw [br_f]; exact hf rfl
theorem Giv.p {c : Prop} [Decidable c] {x y : Option α} {Q : α → Prop} (ht : c → Giv x Q) (hf : ¬ c → Giv y Q) : Giv (br (decide c) x y) Q := by
  by_cases h : c
  · exact .t h (ht h)
  · exact .f h (hf h)
theorem Giv.B {X : Option HV} {f : Bool → Option β} {b : Bool} {Q : β → Prop} (h : X = some (.bool b)) (hk : Giv (f b) Q) : Giv (bndB X f) Q := by subst h; rwa [bndB_some]
theorem Giv.I {k : IntKind} {X : Option HV} {f : Int → Option β} {n : Int} {Q : β → Prop} (h : X = some (.int k n)) (hk : Giv (f n) Q) : Giv (bndI k X f) Q := by subst h; rwa [bndI_some]
theorem Giv.S {X : Option HV} {f : ByteArray → Option β} {s : ByteArray} {Q : β → Prop} (h : X = some (.str s)) (hk : Giv (f s) Q) : Giv (bndS X f) Q := by subst h; rwa [bndS_some]
theorem Giv.L {sz n : Nat} {g : Nat → List HV} {X : Option HV} {f : Nat → (Nat → List HV) → Option β} {Q : β → Prop} (h : X = some (.lst sz n g)) (hk : Giv (f n g) Q) : Giv (bndL sz X f) Q := by subst h; rwa [bndL_some]
theorem Giv.V {X : Option α} {f : α → Option β} {v : α} {Q : β → Prop} (h : X = some v) (hk : Giv (f v) Q) : Giv (bnd X f) Q := by subst h; rwa [bnd_some]
theorem Giv.O {X : Option Out} {f : Ex → List HV → List Slot → Option β} {Q1 : Out → Prop} {Q : β → Prop} (h : Giv X Q1) (hk : ∀ x e st, Q1 (x, e, st) → Giv (f x e st) Q) : Giv (bnd3 X f) Q := by
  obtain ⟨⟨x, e, st⟩, rfl, hq⟩ := h
  rw [bnd3_some]
  exact hk x e st hq
theorem Giv.eq {X : Option α} {r : α} (h : Giv X (· = r)) : X = some r := by obtain ⟨a, e, rfl⟩ := h; exact e

theorem wrap64 {x : Int} (h1 : -9223372036854775808 ≤ x) (h2 : x ≤ 9223372036854775807) : IntKind.i64.wrap x = x := by
  simp [IntKind.wrap, IntKind.bits, IntKind.signed]
  split <;> omega

/-- Slots of which some are known. -/
def Mt : List (Option HV) → List HV → Prop
  | [], [] => True
  | none :: p, _ :: e => Mt p e
  | some v :: p, h :: e => h = v ∧ Mt p e
  | _, _ => False
def fillP : List (Option HV) → Nat → (Nat → HV) → List HV
  | [], _, _ => []
  | none :: p, i, g => g i :: fillP p (i + 1) g
  | some v :: p, i, g => v :: fillP p (i + 1) g
theorem Mt.elim : ∀ {p : List (Option HV)} {e : List HV}, Mt p e → ∀ i, ∃ g : Nat → HV, e = fillP p i g
  | [], [], _, _ => ⟨fun _ => .undef, rfl⟩
  | none :: p, h :: e, hm, i => by
    obtain ⟨g, hg⟩ := Mt.elim (p := p) (e := e) hm (i + 1)
    refine ⟨fun j => if j = i then h else g j, ?_⟩
    have : ∀ (p : List (Option HV)) (k : Nat), i < k → fillP p k (fun j => if j = i then h else g j) = fillP p k g := by
      intro p
      induction p with
      | nil => intro k _; rfl
      | cons o p ih =>
        intro k hk
        cases o with
        | none => simp only [fillP]; rw [ih (k + 1) (by omega), if_neg (by omega)]
        | some v => simp only [fillP]; rw [ih (k + 1) (by omega)]
    simp only [fillP, if_true]
    rw [this p (i + 1) (by omega), ← hg]
  | some v :: p, h :: e, hm, i => by
    obtain ⟨g, hg⟩ := Mt.elim (p := p) (e := e) hm.2 (i + 1)
    exact ⟨g, by rw [hm.1, hg]; rfl⟩
  | [], _ :: _, hm, _ => by cases hm
  | none :: _, [], hm, _ => by cases hm
  | some _ :: _, [], hm, _ => by cases hm

/-- A loop: what holds ahead of round i, until the round that leaves it. -/
theorem iter_scan {f : List HV → List Slot → Option Out} {n0 : Nat} {st : List Slot} {Q : Out → Prop} (I : Nat → List HV → Prop) (stop : Nat)
    (hstep : ∀ i e, i < stop → I i e → Giv (f e st) fun r => r.1 = .normal ∧ I (i + 1) (r.2.1.map (drop n0)) ∧ r.2.2.take n0 = st)
    (hlast : ∀ e, I stop e → Giv (f e st) fun r => r.1 ≠ .normal ∧ Q r) :
    ∀ (m i : Nat) (e : List HV) (k : Nat), I i e → stop = i + m → m < k → Giv (iter f n0 k e st) Q := by
  intro m
  induction m with
  | zero =>
    intro i e k hI hs hk
    have hs : stop = i := hs
    subst hs
    cases k with
    | zero => omega
    | succ k =>
      obtain ⟨⟨x, e2, st2⟩, h1, h2, h3⟩ := hlast e hI
      refine ⟨(x, e2, st2), ?_, h3⟩
      unfold iter
      rw [h1, bnd3_some]
      cases x <;> first | rfl | exact absurd rfl h2
  | succ m ih =>
    intro i e k hI hs hk
    cases k with
    | zero => omega
    | succ k =>
      obtain ⟨⟨x, e2, st2⟩, h1, hx, h2, h3⟩ := hstep i e (by omega) hI
      have hx : x = .normal := hx
      subst hx
      obtain ⟨r, h4, h5⟩ := ih (i + 1) _ k h2 (by omega) (by omega)
      refine ⟨r, ?_, h5⟩
      unfold iter
      rw [h1, bnd3_some]
      simp only [mapK_eq]
      rw [show st2.take n0 = st from h3]
      exact h4
end Go.Eng
end

section
namespace Go.Eng
variable {α β : Type}

theorem Giv.c {b c : Bool} {x y : Option α} {Q : α → Prop} (h : b = c) (hx : Giv (cond c x y) Q) : Giv (br b x y) Q := by
  subst h; cases b
  · rw [br_f]; exact hx
  · rw [br_t]; exact hx

/-- A loop that leaves at the first place that is such a one, or behind the last. -/
theorem scan {f : List HV → List Slot → Option Out} {n0 : Nat} {st : List Slot} {QT : Nat → Out → Prop} {QE : Out → Prop} (n : Nat) (T : Nat → Bool) (I : Nat → List HV → Prop) {e : List HV} {k : Nat} (h0 : I 0 e) (hk : n < k)
    (hstep : ∀ i e, i < n → T i = false → I i e → Giv (f e st) fun r => r.1 = .normal ∧ I (i + 1) (r.2.1.map (drop n0)) ∧ r.2.2.take n0 = st)
    (hstop : ∀ i e, i < n → T i = true → I i e → Giv (f e st) fun r => r.1 ≠ .normal ∧ QT i r)
    (hend : ∀ e, I n e → Giv (f e st) fun r => r.1 ≠ .normal ∧ QE r) :
    Giv (iter f n0 k e st) fun r => (∃ i, i < n ∧ T i = true ∧ (∀ j, j < i → T j = false) ∧ QT i r) ∨ ((∀ j, j < n → T j = false) ∧ QE r) := by
  by_cases h : ∃ i, i < n ∧ T i = true
  · have : ∃ i, i < n ∧ T i = true ∧ ∀ j, j < i → T j = false := by
      obtain ⟨i, hi, ht⟩ := h
      induction i using Nat.strongRecOn with
      | ind i ih =>
        by_cases h2 : ∃ j, j < i ∧ T j = true
        · obtain ⟨j, hj, htj⟩ := h2
          exact ih j hj (by omega) htj
        · refine ⟨i, hi, ht, fun j hj => ?_⟩
          cases hb : T j with
          | false => rfl
          | true => exact absurd ⟨j, hj, hb⟩ h2
    obtain ⟨i, hi, ht, hf⟩ := this
    exact (iter_scan I i (fun j e hj hI => hstep j e (by omega) (hf j hj) hI) (fun e hI => hstop i e hi ht hI) i 0 e k h0 (by omega) (by omega)).mono fun r hr => .inl ⟨i, hi, ht, hf, hr⟩
  · have hf : ∀ j, j < n → T j = false := fun j hj => by
      cases hb : T j with
      | false => rfl
      | true => exact absurd ⟨j, hj, hb⟩ h
    exact (iter_scan I n (fun j e hj hI => hstep j e hj (hf j hj) hI) hend n 0 e k h0 (by omega) (by omega)).mono fun r hr => .inr ⟨hf, hr⟩

theorem Giv.of_eq {X Y : Option α} {Q : α → Prop} (h : X = Y) (hy : Giv Y Q) : Giv X Q := h ▸ hy
/-- One more fuel than nothing. -/
theorem fuel_pos {k d : Nat} (h : d + 1 ≤ k) : ∃ j, k = j + 1 ∧ d ≤ j := ⟨k - 1, by omega, by omega⟩
end Go.Eng
end

section
namespace Go.Eng
set_option linter.unusedSimpArgs false
set_option linter.unusedVariables false
variable {α β γ : Type}

theorem bnd_brs (b : Bool) (x y : Option α) (f : α → Option β) : bnd (brs b x y) f = brs b (bnd x f) (bnd y f) := bnd_br b x y f

theorem toC_u (q : Bool) (st : List Slot) (h : HV) (K : HV → List Slot → Option β) : toC q st h K = bnd (toC q st h (fun v st => some (v, st))) (fun r => K r.1 r.2) := by
  unfold toC
  cases h <;> simp only [bnd_some, bnd_none]
  case arr r sz lo n => split <;> simp only [bnd_brs, bnd_br, bnd_some, bnd_none]
  case var r off => split <;> simp only [bnd_brs, bnd_br, bnd_some, bnd_none]
  case elt r sz lo n => split <;> simp only [bnd_brs, bnd_br, bnd_some, bnd_none]
theorem toCs_u (q : Bool) (hs : List HV) : ∀ (st : List Slot) (β : Type) (K : List HV → List Slot → Option β), toCs q st hs K = bnd (toCs q st hs (fun v st => some (v, st))) (fun r => K r.1 r.2) := by
  induction hs with
  | nil => intro st β K; simp only [toCs, bnd_some]
  | cons h hs ih =>
    intro st β K
    simp only [toCs]
    rw [toC_u (K := fun v st => toCs q st hs fun vs st => K (v :: vs) st), toC_u (K := fun v st => toCs q st hs fun vs st => some (v :: vs, st)), bnd_bnd]
    congr 1
    funext r
    rw [ih r.2 β, ih r.2 _ (fun vs st => some (r.1 :: vs, st)), bnd_bnd]
    simp only [bnd_some]
theorem toC_u2 {q : Bool} {st : List Slot} {h : HV} {F : HV → List Slot → Option γ} {G : HV → List Slot → Option β} {K : γ → Option β} (hh : ∀ v st, G v st = bnd (F v st) K) : toC q st h G = bnd (toC q st h F) K := by
  rw [toC_u (K := G), toC_u (K := F), bnd_bnd]; congr 1; funext r; exact hh r.1 r.2
theorem toCs_u2 {q : Bool} {st : List Slot} {h : List HV} {F : List HV → List Slot → Option γ} {G : List HV → List Slot → Option β} {K : γ → Option β} (hh : ∀ v st, G v st = bnd (F v st) K) : toCs q st h G = bnd (toCs q st h F) K := by
  rw [toCs_u (K := G), toCs_u (K := F), bnd_bnd]; congr 1; funext r; exact hh r.1 r.2

theorem val_u {X : (HV → Option β) → Option β} {Y : (HV → Option γ) → Option γ} {x : Option HV} {K : HV → Option β} {F : HV → Option γ} {G : γ → Option β} (h1 : X K = bnd x K) (h2 : Y F = bnd x F) (h : ∀ v, K v = bnd (F v) G) : X K = bnd (Y F) G := by
  rw [h1, h2, bnd_bnd]; congr 1; funext v; exact h v
theorem stored_u (P : Program) (t : TypeId) (v a : HV) (st : List Slot) (K : List Slot → Option β) : stored P t v a st K = bnd (stored P t v a st some) K := by
  unfold stored
  split
  · split
    · split <;> simp only [bnd_some, bnd_none]
    · simp only [bnd_none]
  · split
    · split <;> simp only [bnd_some, bnd_none]
    · simp only [bnd_none]
  · simp only [bnd_none]

/-- An operation's answer, told first and used then. -/
theorem evOp_u (C : Cfg) (q : Bool) (o : Oper) (e : List HV) (st : List Slot) (K : HV → List HV → List Slot → Option β) : evOp C q o e st K = bnd (evOp C q o e st fun v e st => some (v, e, st)) (fun r => K r.1 r.2.1 r.2.2) := by
  unfold evOp
  cases ho : o.op <;> simp only [evK_eq, evKs_eq, List.map_map, bnd_brs, bnd_some, bnd_none]
  case assign x => congr 1; split <;> simp only [bnd_some, bnd_none]
  case pick c x y => split <;> simp only [bnd_some, bnd_none, bnd_br]
  case alloc t => congr 1; split <;> simp only [bnd_some, bnd_none]
  case box t x => exact toC_u2 fun v st => by simp only [bnd_some]
  case build t parts =>
    split
    · rw [bnd_brs, bnd_none]
      congr 1
      refine toCs_u2 fun vs st => ?_
      split <;> simp only [bnd_some, bnd_none]
    · simp only [bnd_none]
  case buildSlice t len parts =>
    split
    · exact toCs_u2 fun vs st => by simp only [builtS, bnd_brs, bnd_some, bnd_none]
    · simp only [bnd_none]
  case load t x =>
    split
    · exact val_u (X := loadC _ _ _ _) (Y := loadC _ _ _ _) (loadC_q _ _ _ _ _) (loadC_q _ _ _ _ _) fun v => by simp only [bnd_some]
    · split
      · exact val_u (X := loadC _ _ _ _) (Y := loadC _ _ _ _) (loadC_q _ _ _ _ _) (loadC_q _ _ _ _ _) fun v => by simp only [bnd_some]
      · simp only [bnd_none]
    · split
      · rw [bnd_br, bnd_none]
        congr 1
        exact val_u (X := loadC _ _ _ _) (Y := loadC _ _ _ _) (loadC_q _ _ _ _ _) (loadC_q _ _ _ _ _) fun v => by simp only [bnd_some]
      · simp only [bnd_none]
    · simp only [bnd_none]
  case store t a x =>
    congr 1
    refine toC_u2 fun v st => ?_
    rw [stored_u, stored_u (K := fun st => some (HV.undef, e, st)), bnd_bnd]
    simp only [bnd_some]
  case nilCheck x => split <;> simp only [bnd_some, bnd_none]
  case binOp op t x y yt => exact val_u (X := evBin _ _ _ _ _) (Y := evBin _ _ _ _ _) (evBin_q _ _ _ _ _ _) (evBin_q _ _ _ _ _ _) fun v => by simp only [bnd_some]
  case unOp op t x => exact val_u (X := evUn _ _) (Y := evUn _ _) (evUn_q _ _ _) (evUn_q _ _ _) fun v => by simp only [bnd_some]
  case convert src dst x => split <;> simp only [bnd_some, bnd_none]
  case makeFunc fn first captured =>
    split
    · exact toCs_u2 fun vs st => by simp only [bnd_brs, bnd_some, bnd_none]
    · simp only [bnd_none]
  case makeSlice t l c =>
    congr 1
    split <;> simp only [bnd_br, bnd_some, bnd_none]
  case slice t x lo hi mx =>
    split
    · exact val_u (X := evSlice _ _ _ _ _) (Y := evSlice _ _ _ _ _) (evSlice_q _ _ _ _ _ _) (evSlice_q _ _ _ _ _ _) fun v => by simp only [bnd_some]
    · simp only [bnd_none]
  case fieldAddr t x i => exact val_u (X := evField _ _ _ _) (Y := evField _ _ _ _) (evField_q _ _ _ _ _) (evField_q _ _ _ _ _) fun v => by simp only [bnd_some]
  case indexAddr t x ix =>
    split
    · exact val_u (X := evIdx _ _ _) (Y := evIdx _ _ _) (evIdx_q _ _ _ _) (evIdx_q _ _ _ _) fun v => by simp only [bnd_some]
    · simp only [bnd_none]
  case index t x ix => split <;> simp only [bnd_br, bnd_some, bnd_none]
  case extract t i =>
    split
    · split <;> simp only [bnd_some, bnd_none]
    · simp only [bnd_none]
  case call c =>
    cases hc : c.callee with
    | invoke x n => simp only [bnd_none]
    | value f =>
      simp only
      split
      · rw [bnd_br, bnd_none]
        congr 1
        refine toCs_u2 fun vs st => ?_
        exact val_u (X := typed _ _ _) (Y := typed _ _ _) (typed_q _ _ _ _) (typed_q _ _ _ _) fun v => by simp only [bnd_some]
      · simp only [bnd_none]
    | builtin b =>
      cases b <;> simp only [bnd_none]
      case append =>
        split
        · rw [bnd_brs, bnd_none]
          congr 1
          unfold evAppend
          rw [bnd_brs, bnd_none]
          congr 1
          split
          · unfold listOf
            simp only [mapK_eq]
            split
            · rw [bnd_brs, bnd_none]
              congr 1
              split
              · split <;> simp only [bnd_brs, bnd_br, bnd_some, bnd_none]
              · simp only [bnd_br, bnd_some, bnd_none]
              · simp only [bnd_none]
            · rw [bnd_brs, bnd_none]
              congr 1
              split
              · split <;> simp only [bnd_brs, bnd_br, bnd_some, bnd_none]
              · simp only [bnd_br, bnd_some, bnd_none]
              · simp only [bnd_none]
            · split
              · split <;> simp only [bnd_brs, bnd_br, bnd_some, bnd_none]
              · simp only [bnd_br, bnd_some, bnd_none]
              · simp only [bnd_none]
            · simp only [bnd_none]
          · simp only [bnd_none]
        · simp only [bnd_none]
      case len =>
        split
        · split <;> simp only [bnd_some, bnd_none]
        · simp only [bnd_none]
      case max =>
        split
        · split <;> simp only [bnd_some, bnd_none]
        · simp only [bnd_none]
      case min =>
        split
        · split <;> simp only [bnd_some, bnd_none]
        · simp only [bnd_none]
theorem evOp_u2 {C : Cfg} {q : Bool} {o : Oper} {e : List HV} {st : List Slot} {F : HV → List HV → List Slot → Option γ} {G : HV → List HV → List Slot → Option β} {K : γ → Option β} (hh : ∀ v e st, G v e st = bnd (F v e st) K) : evOp C q o e st G = bnd (evOp C q o e st F) K := by
  rw [evOp_u (K := G), evOp_u (K := F), bnd_bnd]; congr 1; funext r; exact hh _ _ _
theorem evOps_u (C : Cfg) (q : Bool) (all : Array Oper) : ∀ (l : List Oper) (e : List HV) (st : List Slot) (K : List HV → List Slot → Option β), evOps C q all l e st K = bnd (evOps C q all l e st (fun e st => some (e, st))) (fun r => K r.1 r.2)
  | [], e, st, K => by simp only [evOps, bnd_some]
  | o :: l, e, st, K => by
    have step : ∀ e, (evOp C q o e st fun v e st => put e o.dst v fun e => evOps C q all l e st K) = bnd (evOp C q o e st fun v e st => put e o.dst v fun e => evOps C q all l e st (fun e st => some (e, st))) (fun r => K r.1 r.2) := fun e =>
      evOp_u2 fun v e st => by simp only [put_eq]; exact evOps_u C q all l _ _ K
    have skip : ∀ e, (put e o.dst (.tup []) fun e => evOps C q all l e st K) = bnd (put e o.dst (.tup []) fun e => evOps C q all l e st (fun e st => some (e, st))) (fun r => K r.1 r.2) := fun e => by
      simp only [put_eq]; exact evOps_u C q all l _ _ K
    unfold evOps
    split
    · exact step e
    · split
      · split
        · split
          · simp only [setK_eq, bnd_br, bnd_brs]
            rw [step, step, skip, skip]
          · exact skip e
          · simp only [bnd_none]
        · simp only [bnd_none]
      · simp only [bnd_none]
theorem bnd3_u {X : Option Out} {F : Ex → List HV → List Slot → Option γ} {K : γ → Option β} : bnd (bnd3 X F) K = bnd3 X fun x e st => bnd (F x e st) K := by
  cases X with
  | none => unfold bnd3 bnd; rfl
  | some r => obtain ⟨x, e, st⟩ := r; simp only [bnd3_some]

/-- Code, told first and used then. -/
theorem evC_u (C : Cfg) (k : Nat) : ∀ (c : Code) (β γ : Type) (e : List HV) (st : List Slot) (F : Ex → List HV → List Slot → Option γ) (G : Ex → List HV → List Slot → Option β) (K : γ → Option β), (∀ x e st, G x e st = bnd (F x e st) K) →
    evC C k c β e st G = bnd (evC C k c γ e st F) K := by
  intro c
  induction c with
  | skip => intro β γ e st F G K h; exact h _ _ _
  | exit id => intro β γ e st F G K h; exact h _ _ _
  | ret => intro β γ e st F G K h; exact h _ _ _
  | region id ops draw =>
    intro β γ e st F G K h
    unfold evC
    rw [evOps_u (K := fun e st => G .normal e st), evOps_u (K := fun e st => F .normal e st), bnd_bnd]
    congr 1
    funext r
    exact h _ _ _
  | seq x y ihx ihy =>
    intro β γ e st F G K h
    unfold evC
    refine ihx β γ e st _ _ K fun x' e st => ?_
    cases x' with
    | normal => exact ihy β γ e st F G K h
    | exit i => exact h _ _ _
    | ret => exact h _ _ _
  | cond o x y ihx ihy =>
    intro β γ e st F G K h
    unfold evC
    split
    · rw [bnd_br, ihx β γ e st F G K h, ihy β γ e st F G K h]
    · simp only [bnd_none]
  | block id x ih =>
    intro β γ e st F G K h
    unfold evC
    refine ih β γ e st _ _ K fun x' e st => ?_
    cases x' with
    | normal => exact h _ _ _
    | exit i => simp only [bnd_brs, h]
    | ret => exact h _ _ _
  | loop x ih =>
    intro β γ e st F G K h
    unfold evC
    rw [bnd3_u]
    congr 1
    funext x' e st
    exact h _ _ _
  | _ => intro β γ e st F G K h; unfold evC; simp only [bnd_none]
/-- A piece of code, and what comes behind it. -/
theorem Giv.piece {C : Cfg} {k : Nat} {c : Code} {β : Type} {e : List HV} {st : List Slot} {G : Ex → List HV → List Slot → Option β} {Q1 : Out → Prop} {Q : β → Prop} (h : Giv (evC C k c Out e st fun x e st => some (x, e, st)) Q1)
    (hk : ∀ x e st, Q1 (x, e, st) → Giv (G x e st) Q) : Giv (evC C k c β e st G) Q := by
  rw [evC_u C k c β Out e st (fun x e st => some (x, e, st)) G (fun r => G r.1 r.2.1 r.2.2) (fun x e st => by simp only [bnd_some])]
  obtain ⟨⟨x, e, st⟩, h1, h2⟩ := h
  rw [h1, bnd_some]
  exact hk _ _ _ h2
theorem Giv.seq {C : Cfg} {k : Nat} {c a b : Code} {β : Type} {e : List HV} {st : List Slot} {K : Ex → List HV → List Slot → Option β} {Q1 : Out → Prop} {Q : β → Prop} (hc : c = .seq a b) (h : Giv (evC C k a Out e st fun x e st => some (x, e, st)) Q1)
    (hn : ∀ e st, Q1 (.normal, e, st) → Giv (evC C k b β e st K) Q) (hx : ∀ x e st, x ≠ .normal → Q1 (x, e, st) → Giv (K x e st) Q) : Giv (evC C k c β e st K) Q := by
  subst hc
  unfold evC
  refine Giv.piece h fun x e st hq => ?_
  cases x with
  | normal => exact hn e st hq
  | exit i => exact hx _ e st (by intro h; cases h) hq
  | ret => exact hx _ e st (by intro h; cases h) hq
theorem Giv.body {C : Cfg} {k : Nat} {fn : Func} {args : List HV} {c : Code} {Q : HV → Prop} (hb : fn.body = some c) (h : Giv (evC C k c HV (args ++ List.replicate (fn.ntmps - args.length) .undef) [] fun x e st => match x with
      | .exit _ => none
      | _ => retH C.P fn.results.toList e st) Q) : Giv (body C k fn args) Q := by
  unfold Eng.body
  rw [hb]
  exact h
end Go.Eng
end
