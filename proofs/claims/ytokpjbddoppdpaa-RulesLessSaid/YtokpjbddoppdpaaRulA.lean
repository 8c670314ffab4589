/- Programs of rules: their values, and the first functions. -/
import Derived.Test.YtokpjbddoppdpaaEngC
import Derived.Test.YtokpjbddoppdpaaProg
set_option linter.unusedVariables false
set_option linter.unusedSimpArgs false
set_option linter.unusedSectionVars false
section
namespace Go.Rul
open Go.Eng
set_option maxRecDepth 100000

structure Lit where
  flag : Int
  no : Bool
structure Cond where
  file : ByteArray
  op : ByteArray
  n : Int
structure SetF where
  flag : Int
  up : Bool
structure Rule where
  stratum : Int
  ifs : List Lit
  conds : List Cond
  thens : List SetF
structure Counter where
  while_ : Int
  limit : Int
  then_ : Int
structure User where
  item : ByteArray
  event : Int
  while_ : List Lit
  then_ : Int
structure OnE where
  item : ByteArray
  event : Int
structure Sentry where
  on : List OnE
  ifs : List Cond
structure Item where
  id : ByteArray
  kind : Int
  parent : ByteArray
  required : Bool
  ticks : Int
  entry : List Sentry
  exits : List Sentry
structure Pr where
  flags : Int
  lasting : Int
  first : List Int
  over : List Int
  from_ : Int
  files : List ByteArray
  rules : List Rule
  counters : List Counter
  users : List User
  notes : List Item
instance : Inhabited Lit := ⟨⟨0, false⟩⟩
instance : Inhabited SetF := ⟨⟨0, false⟩⟩
instance : Inhabited Cond := ⟨⟨default, default, 0⟩⟩
instance : Inhabited Rule := ⟨⟨0, [], [], []⟩⟩
instance : Inhabited Counter := ⟨⟨0, 0, 0⟩⟩
instance : Inhabited User := ⟨⟨default, 0, [], 0⟩⟩
instance : Inhabited OnE := ⟨⟨default, 0⟩⟩
instance : Inhabited Sentry := ⟨⟨[], []⟩⟩
instance : Inhabited Item := ⟨⟨default, 0, default, false, 0, [], []⟩⟩
abbrev I64 := eInt .i64
def eLit (x : Lit) : List HV := [.int .i64 x.flag, .bool x.no]
def eSet (x : SetF) : List HV := [.int .i64 x.flag, .bool x.up]
def eCond (x : Cond) : List HV := [.str x.file, .str x.op, .int .i64 x.n]
def eRule (r : Rule) : List HV := [.int .i64 r.stratum, encL 2 eLit r.ifs, encL 3 eCond r.conds, encL 2 eSet r.thens]
def eCounter (x : Counter) : List HV := [.int .i64 x.while_, .int .i64 x.limit, .int .i64 x.then_]
def eUser (x : User) : List HV := [.str x.item, .int .i64 x.event, encL 2 eLit x.while_, .int .i64 x.then_]
def eOn (x : OnE) : List HV := [.str x.item, .int .i64 x.event]
def eSentry (x : Sentry) : List HV := [encL 2 eOn x.on, encL 3 eCond x.ifs]
def eItem (x : Item) : List HV := [.str x.id, .int .i64 x.kind, .str x.parent, .bool x.required, .int .i64 x.ticks, encL 2 eSentry x.entry, encL 2 eSentry x.exits]
def ePr (p : Pr) : List HV := [.int .i64 p.flags, .int .i64 p.lasting, encL 1 I64 p.first, encL 1 I64 p.over, .int .i64 p.from_, encL 1 eStr p.files, encL 4 eRule p.rules, encL 3 eCounter p.counters, encL 4 eUser p.users, encL 7 eItem p.notes]

noncomputable abbrev PP := Go.Proofs.Try.prog
/-- More rounds than any list is long. -/
def BB : Nat := 140737488355328
/-- A list may be as long as that. -/
def Len {α : Type} (l : List α) : Prop := l.length < 140737488355328
def FF : List Nat := [4, 9, 10, 12, 14, 16, 23, 24, 25, 28, 29, 30, 31, 32, 33, 36, 37, 38, 40, 41, 42, 43, 44, 45, 46, 47, 48, 49, 50, 51, 52, 53, 54, 55, 63, 64, 65, 66, 67, 68, 69, 70, 71, 74, 75, 76, 77, 78, 79, 80, 81, 96, 97, 98, 99, 100, 101, 102, 103, 106, 107, 108, 117, 129]

/-- What the functions by hand are: none of those that are stepped through. -/
def Xok (X : Ext) : Prop := ∀ f, FF.elem f = true → X f = none
theorem call_eq {X : Ext} {k f : Nat} {args : List HV} (hX : Xok X) (hf : FF.elem f = true) (fn : Func) (h : PP.funcs[f]? = some fn) : callP PP X FF (k + 1) f args = body ⟨PP, callP PP X FF k⟩ k fn args := by
  show (match X f with | some g => g (callP PP X FF k) args | none => match FF.elem f with | true => _ | false => none) = _
  rw [hX f hf, hf]
  simp only [h]

section
variable {X : Ext}

def inB (n lo hi : Int) : Bool := decide (lo ≤ n) && decide (n < hi)
theorem f28 (hX : Xok X) {k : Nat} (hk : BB + 1 ≤ k) (n lo hi : Int) : callP PP X FF k 28 [.int .i64 n, .int .i64 lo, .int .i64 hi] = some (.bool (inB n lo hi)) := by
  obtain ⟨k, rfl, hk⟩ := fuel_pos hk
  rw [call_eq hX rfl _ Go.Proofs.Try.func28]
  refine Giv.eq ?_
  refine Giv.p (c := lo ≤ n) (fun h => ?_) (fun h => ?_)
  · (repeat (apply Giv.c; focus (first | assumption | exact (rfl : _ = true) | exact (rfl : _ = false) | exact decide_eq_true (by first | assumption | omega) | exact decide_eq_false (by first | assumption | omega))))
    refine Giv.ok ?_
    simp [inB, h]
  · (repeat (apply Giv.c; focus (first | assumption | exact (rfl : _ = true) | exact (rfl : _ = false) | exact decide_eq_true (by first | assumption | omega) | exact decide_eq_false (by first | assumption | omega))))
    refine Giv.ok ?_
    simp [inB, h]
theorem f63 (hX : Xok X) {k : Nat} (hk : BB + 1 ≤ k) (n hi : Int) : callP PP X FF k 63 [.int .i64 n, .int .i64 hi] = some (.bool (inB n 0 hi)) := by
  obtain ⟨k, rfl, hk⟩ := fuel_pos hk
  rw [call_eq hX rfl _ Go.Proofs.Try.func63]
  refine Giv.eq ?_
  refine Giv.p (c := 0 ≤ n) (fun h => ?_) (fun h => ?_)
  · (repeat (apply Giv.c; focus (first | assumption | exact (rfl : _ = true) | exact (rfl : _ = false) | exact decide_eq_true (by first | assumption | omega) | exact decide_eq_false (by first | assumption | omega))))
    refine Giv.ok ?_
    simp [inB, h]
  · (repeat (apply Giv.c; focus (first | assumption | exact (rfl : _ = true) | exact (rfl : _ = false) | exact decide_eq_true (by first | assumption | omega) | exact decide_eq_false (by first | assumption | omega))))
    refine Giv.ok ?_
    simp [inB, h]
end
end Go.Rul
end

section
namespace Go.Rul
open Go.Eng
set_option maxRecDepth 100000
set_option linter.unusedVariables false

theorem all_of {α : Type} [Inhabited α] {l : List α} {p : α → Bool} (h : ∀ j, j < l.length → p (l.getD j default) = true) : l.all p = true := by
  rw [List.all_eq_true]
  intro x hx
  obtain ⟨i, hi, rfl⟩ := List.mem_iff_getElem.1 hx
  have := h i hi
  rwa [List.getD_eq_getElem?_getD, List.getElem?_eq_getElem hi] at this
theorem all_not {α : Type} [Inhabited α] {l : List α} {p : α → Bool} {i : Nat} (hi : i < l.length) (h : p (l.getD i default) = false) : l.all p = false := by
  rw [List.getD_eq_getElem?_getD, List.getElem?_eq_getElem hi, Option.getD_some] at h
  cases hb : l.all p with
  | false => rfl
  | true => rw [List.all_eq_true.1 hb _ (List.getElem_mem hi)] at h; cases h
theorem any_of {α : Type} [Inhabited α] {l : List α} {p : α → Bool} {i : Nat} (hi : i < l.length) (h : p (l.getD i default) = true) : l.any p = true := by
  rw [List.getD_eq_getElem?_getD, List.getElem?_eq_getElem hi, Option.getD_some] at h
  exact List.any_eq_true.2 ⟨_, List.getElem_mem hi, h⟩
theorem any_not {α : Type} [Inhabited α] {l : List α} {p : α → Bool} (h : ∀ j, j < l.length → p (l.getD j default) = false) : l.any p = false := by
  cases hb : l.any p with
  | false => rfl
  | true =>
    obtain ⟨x, hx, hp⟩ := List.any_eq_true.1 hb
    obtain ⟨i, hi, rfl⟩ := List.mem_iff_getElem.1 hx
    have := h i hi
    rw [List.getD_eq_getElem?_getD, List.getElem?_eq_getElem hi] at this
    simp [hp] at this

section
variable {X : Ext}

theorem f64 (hX : Xok X) {k : Nat} (hk : BB + 2 ≤ k) (l : List Lit) (hl : Len l) (n : Int) : callP PP X FF k 64 [encL 2 eLit l, .int .i64 n] = some (.bool (l.all fun x => inB x.flag 0 n)) := by
  unfold Len at hl
  obtain ⟨k, rfl, hk⟩ := fuel_pos hk
  rw [call_eq hX rfl _ Go.Proofs.Try.func64]
  refine Giv.eq ?_
  refine Giv.O (scan l.length (fun i => !inB (l.getD i default).flag 0 n) (fun i e => Mt [some (encL 2 eLit l), some (.int .i64 n), none, none, none, some (.int .i64 i), none, none, none, none, none, none, none, none, none, none, none, none, none, none] e) (QT := fun i r => r.1 = .ret ∧ Mt [none, none, none, none, some (.bool false), none, none, none, none, none, none, none, none, none, none, none, none, none, none, none] r.2.1) (QE := fun r => r.1 = .exit 0 ∧ Mt [none, none, none, none, none, none, none, none, none, none, none, none, none, none, none, none, none, none, none, none] r.2.1) ?_ ?_ ?_ ?_ ?_) ?_
  · exact ⟨rfl, rfl, rfl, trivial⟩
  · unfold BB at hk; omega
  · intro i e hi hT hI
    obtain ⟨g, rfl⟩ := hI.elim 0
    (repeat (apply Giv.c; focus (first | assumption | exact (rfl : _ = true) | exact (rfl : _ = false) | exact decide_eq_true (by first | assumption | omega) | exact decide_eq_false (by first | assumption | omega))))
    refine Giv.B (f63 hX (by omega) _ _) ?_
    (repeat (apply Giv.c; focus (first | assumption | exact (rfl : _ = true) | exact (rfl : _ = false) | exact decide_eq_true (by first | assumption | omega) | exact decide_eq_false (by first | assumption | omega))))
    exact Giv.ok ⟨rfl, ⟨rfl, rfl, congrArg _ (wrap64 (by omega) (by omega)), trivial⟩, rfl⟩
  · intro i e hi hT hI
    obtain ⟨g, rfl⟩ := hI.elim 0
    (repeat (apply Giv.c; focus (first | assumption | exact (rfl : _ = true) | exact (rfl : _ = false) | exact decide_eq_true (by first | assumption | omega) | exact decide_eq_false (by first | assumption | omega))))
    refine Giv.B (f63 hX (by omega) _ _) ?_
    (repeat (apply Giv.c; focus (first | assumption | exact (rfl : _ = true) | exact (rfl : _ = false) | exact decide_eq_true (by first | assumption | omega) | exact decide_eq_false (by first | assumption | omega))))
    exact Giv.ok ⟨(by intro h; cases h), rfl, rfl, trivial⟩
  · intro e hI
    obtain ⟨g, rfl⟩ := hI.elim 0
    (repeat (apply Giv.c; focus (first | assumption | exact (rfl : _ = true) | exact (rfl : _ = false) | exact decide_eq_true (by first | assumption | omega) | exact decide_eq_false (by first | assumption | omega))))
    exact Giv.ok ⟨(by intro h; cases h), rfl, trivial⟩
  · intro x e st h
    rcases h with ⟨i, hi, hT, hf, hx, hM⟩ | ⟨hf, hx, hM⟩
    · obtain ⟨g, rfl⟩ := hM.elim 0
      have hx : x = .ret := hx
      subst hx
      refine Giv.ok ?_
      rw [all_not hi (by simpa using hT)]
      rfl
    · obtain ⟨g, rfl⟩ := hM.elim 0
      have hx : x = .exit 0 := hx
      subst hx
      refine Giv.ok ?_
      rw [all_of (fun j hj => by simpa using hf j hj)]
      rfl
theorem f24 (hX : Xok X) {k : Nat} (hk : BB + 1 ≤ k) (l : List ByteArray) (hl : Len l) (s : ByteArray) : callP PP X FF k 24 [encL 1 eStr l, .str s] = some (.bool (l.any fun x => decide (x = s))) := by
  unfold Len at hl
  obtain ⟨k, rfl, hk⟩ := fuel_pos hk
  rw [call_eq hX rfl _ Go.Proofs.Try.func24]
  refine Giv.eq ?_
  refine Giv.O (scan l.length (fun i => decide (l.getD i default = s)) (fun i e => Mt [some (encL 1 eStr l), some (.str s), none, none, none, some (.int .i64 i), none, none, none, none, none, none, none, none, none, none, none, none] e) (QT := fun i r => r.1 = .ret ∧ Mt [none, none, none, none, some (.bool true), none, none, none, none, none, none, none, none, none, none, none, none, none] r.2.1) (QE := fun r => r.1 = .exit 0 ∧ Mt [none, none, none, none, none, none, none, none, none, none, none, none, none, none, none, none, none, none] r.2.1) (by repeat' (first | exact trivial | exact rfl | (refine ⟨?_, ?_⟩))) (by unfold BB at hk; omega) ?_ ?_ ?_) ?_
  · intro i e hi hT hI
    obtain ⟨g, rfl⟩ := hI.elim 0
    (repeat (apply Giv.c; focus (first | assumption | exact (rfl : _ = true) | exact (rfl : _ = false) | exact decide_eq_true (by first | assumption | omega) | exact decide_eq_false (by first | assumption | omega))))
    exact Giv.ok ⟨rfl, (by repeat' (first | exact trivial | exact rfl | exact congrArg _ (wrap64 (by omega) (by omega)) | (refine ⟨?_, ?_⟩))), rfl⟩
  · intro i e hi hT hI
    obtain ⟨g, rfl⟩ := hI.elim 0
    (repeat (apply Giv.c; focus (first | assumption | exact (rfl : _ = true) | exact (rfl : _ = false) | exact decide_eq_true (by first | assumption | omega) | exact decide_eq_false (by first | assumption | omega))))
    exact Giv.ok ⟨(by intro h; cases h), rfl, (by repeat' (first | exact trivial | exact rfl | (refine ⟨?_, ?_⟩)))⟩
  · intro e hI
    obtain ⟨g, rfl⟩ := hI.elim 0
    (repeat (apply Giv.c; focus (first | assumption | exact (rfl : _ = true) | exact (rfl : _ = false) | exact decide_eq_true (by first | assumption | omega) | exact decide_eq_false (by first | assumption | omega))))
    exact Giv.ok ⟨(by intro h; cases h), rfl, (by repeat' (first | exact trivial | exact rfl | (refine ⟨?_, ?_⟩)))⟩
  · intro x e st h
    rcases h with ⟨i, hi, hT, hf, hx, hM⟩ | ⟨hf, hx, hM⟩
    · obtain ⟨g, rfl⟩ := hM.elim 0
      have hx : x = .ret := hx
      subst hx
      refine Giv.ok ?_
      rw [any_of hi hT]
      rfl
    · obtain ⟨g, rfl⟩ := hM.elim 0
      have hx : x = .exit 0 := hx
      subst hx
      refine Giv.ok ?_
      rw [any_not hf]
      rfl

theorem f74 (hX : Xok X) {k : Nat} {h : Nat} {caps : List HV} (hk : BB + 1 ≤ k) (l : List Lit) (hl : Len l) (p : Lit → Bool) (hok : okFn PP h = true)
    (hp : ∀ x ∈ l, ∀ j, j + 1 = k → callP PP X FF j h (nzs PP (paramsT PP h) [.agg (eLit x)] ++ caps) = some (.bool (p x))) : ∃ r : Int, callP PP X FF k 74 [encL 2 eLit l, .fn h caps] = some (.int .i64 r) ∧ decide (0 ≤ r) = l.any p := by
  unfold Len at hl
  obtain ⟨k, rfl, hk⟩ := fuel_pos hk
  rw [call_eq hX rfl _ Go.Proofs.Try.func74]
  have hget : ∀ i, i < l.length → l.getD i default ∈ l := fun i hi => by
    rw [List.getD_eq_getElem?_getD, List.getElem?_eq_getElem hi]; exact List.getElem_mem hi
  suffices hs : Giv (body ⟨PP, callP PP X FF k⟩ k Go.Proofs.Try.f74 [encL 2 eLit l, .fn h caps]) (fun v => ∃ r : Int, v = .int .i64 r ∧ decide (0 ≤ r) = l.any p) by
    obtain ⟨v, h1, r, rfl, h2⟩ := hs
    exact ⟨r, h1, h2⟩
  refine Giv.O (scan l.length (fun i => p (l.getD i default)) (fun i e => Mt [some (encL 2 eLit l), some (.fn h caps), none, none, none, none, none, some (.int .i64 l.length), some (.int .i64 i), none, none, none, none, none, none, none, none, none, none] e) (QT := fun i r => r.1 = .ret ∧ Mt [none, none, none, none, some (.int .i64 i), none, none, none, none, none, none, none, none, none, none, none, none, none, none] r.2.1) (QE := fun r => r.1 = .exit 0 ∧ Mt [none, none, none, none, none, none, none, none, none, none, none, none, none, none, none, none, none, none, none] r.2.1) (by repeat' (first | exact trivial | exact rfl | (refine ⟨?_, ?_⟩))) (by unfold BB at hk; omega) ?_ ?_ ?_) ?_
  · intro i e hi hT hI
    obtain ⟨g, rfl⟩ := hI.elim 0
    (repeat (apply Giv.c; focus (first | assumption | exact (rfl : _ = true) | exact (rfl : _ = false) | exact decide_eq_true (by first | assumption | omega) | exact decide_eq_false (by first | assumption | omega))))
    refine Giv.B (hp _ (hget i hi) k rfl) ?_
    (repeat (apply Giv.c; focus (first | assumption | exact (rfl : _ = true) | exact (rfl : _ = false) | exact decide_eq_true (by first | assumption | omega) | exact decide_eq_false (by first | assumption | omega))))
    exact Giv.ok ⟨rfl, (by repeat' (first | exact trivial | exact rfl | exact congrArg _ (wrap64 (by omega) (by omega)) | (refine ⟨?_, ?_⟩))), rfl⟩
  · intro i e hi hT hI
    obtain ⟨g, rfl⟩ := hI.elim 0
    (repeat (apply Giv.c; focus (first | assumption | exact (rfl : _ = true) | exact (rfl : _ = false) | exact decide_eq_true (by first | assumption | omega) | exact decide_eq_false (by first | assumption | omega))))
    refine Giv.B (hp _ (hget i hi) k rfl) ?_
    (repeat (apply Giv.c; focus (first | assumption | exact (rfl : _ = true) | exact (rfl : _ = false) | exact decide_eq_true (by first | assumption | omega) | exact decide_eq_false (by first | assumption | omega))))
    exact Giv.ok ⟨(by intro h; cases h), rfl, (by repeat' (first | exact trivial | exact rfl | (refine ⟨?_, ?_⟩)))⟩
  · intro e hI
    obtain ⟨g, rfl⟩ := hI.elim 0
    (repeat (apply Giv.c; focus (first | assumption | exact (rfl : _ = true) | exact (rfl : _ = false) | exact decide_eq_true (by first | assumption | omega) | exact decide_eq_false (by first | assumption | omega))))
    exact Giv.ok ⟨(by intro h; cases h), rfl, (by repeat' (first | exact trivial | exact rfl | (refine ⟨?_, ?_⟩)))⟩
  · intro x e st h
    rcases h with ⟨i, hi, hT, hf, hx, hM⟩ | ⟨hf, hx, hM⟩
    · obtain ⟨g, rfl⟩ := hM.elim 0
      have hx : x = .ret := hx
      subst hx
      refine Giv.ok ⟨i, rfl, ?_⟩
      rw [any_of hi hT]
      exact decide_eq_true (by omega)
    · obtain ⟨g, rfl⟩ := hM.elim 0
      have hx : x = .exit 0 := hx
      subst hx
      refine Giv.ok ⟨-1, rfl, ?_⟩
      rw [any_not hf]
      rfl
theorem f37 (hX : Xok X) {k : Nat} {h : Nat} {caps : List HV} (hk : BB + 2 ≤ k) (l : List Lit) (hl : Len l) (p : Lit → Bool) (hok : okFn PP h = true)
    (hp : ∀ x ∈ l, ∀ j, j + 2 = k → callP PP X FF j h (nzs PP (paramsT PP h) [.agg (eLit x)] ++ caps) = some (.bool (p x))) : callP PP X FF k 37 [encL 2 eLit l, .fn h caps] = some (.bool (l.any p)) := by
  obtain ⟨k, rfl, hk⟩ := fuel_pos hk
  rw [call_eq hX rfl _ Go.Proofs.Try.func37]
  refine Giv.eq ?_
  obtain ⟨r, h1, h2⟩ := f74 (k := k) hX (by omega) l hl p hok (fun x hx j hj => hp x hx j (by omega))
  (repeat (apply Giv.c; focus (first | assumption | exact (rfl : _ = true) | exact (rfl : _ = false) | exact decide_eq_true (by first | assumption | omega) | exact decide_eq_false (by first | assumption | omega))))
  refine Giv.I h1 ?_
  exact Giv.ok (congrArg HV.bool h2)

theorem f75 (hX : Xok X) {k : Nat} {h : Nat} {caps : List HV} (hk : BB + 1 ≤ k) (l : List SetF) (hl : Len l) (p : SetF → Bool) (hok : okFn PP h = true)
    (hp : ∀ x ∈ l, ∀ j, j + 1 = k → callP PP X FF j h (nzs PP (paramsT PP h) [.agg (eSet x)] ++ caps) = some (.bool (p x))) : ∃ r : Int, callP PP X FF k 75 [encL 2 eSet l, .fn h caps] = some (.int .i64 r) ∧ decide (0 ≤ r) = l.any p := by
  unfold Len at hl
  obtain ⟨k, rfl, hk⟩ := fuel_pos hk
  rw [call_eq hX rfl _ Go.Proofs.Try.func75]
  have hget : ∀ i, i < l.length → l.getD i default ∈ l := fun i hi => by
    rw [List.getD_eq_getElem?_getD, List.getElem?_eq_getElem hi]; exact List.getElem_mem hi
  suffices hs : Giv (body ⟨PP, callP PP X FF k⟩ k Go.Proofs.Try.f75 [encL 2 eSet l, .fn h caps]) (fun v => ∃ r : Int, v = .int .i64 r ∧ decide (0 ≤ r) = l.any p) by
    obtain ⟨v, h1, r, rfl, h2⟩ := hs
    exact ⟨r, h1, h2⟩
  refine Giv.O (scan l.length (fun i => p (l.getD i default)) (fun i e => Mt [some (encL 2 eSet l), some (.fn h caps), none, none, none, none, none, some (.int .i64 l.length), some (.int .i64 i), none, none, none, none, none, none, none, none, none, none] e) (QT := fun i r => r.1 = .ret ∧ Mt [none, none, none, none, some (.int .i64 i), none, none, none, none, none, none, none, none, none, none, none, none, none, none] r.2.1) (QE := fun r => r.1 = .exit 0 ∧ Mt [none, none, none, none, none, none, none, none, none, none, none, none, none, none, none, none, none, none, none] r.2.1) (by repeat' (first | exact trivial | exact rfl | (refine ⟨?_, ?_⟩))) (by unfold BB at hk; omega) ?_ ?_ ?_) ?_
  · intro i e hi hT hI
    obtain ⟨g, rfl⟩ := hI.elim 0
    (repeat (apply Giv.c; focus (first | assumption | exact (rfl : _ = true) | exact (rfl : _ = false) | exact decide_eq_true (by first | assumption | omega) | exact decide_eq_false (by first | assumption | omega))))
    refine Giv.B (hp _ (hget i hi) k rfl) ?_
    (repeat (apply Giv.c; focus (first | assumption | exact (rfl : _ = true) | exact (rfl : _ = false) | exact decide_eq_true (by first | assumption | omega) | exact decide_eq_false (by first | assumption | omega))))
    exact Giv.ok ⟨rfl, (by repeat' (first | exact trivial | exact rfl | exact congrArg _ (wrap64 (by omega) (by omega)) | (refine ⟨?_, ?_⟩))), rfl⟩
  · intro i e hi hT hI
    obtain ⟨g, rfl⟩ := hI.elim 0
    (repeat (apply Giv.c; focus (first | assumption | exact (rfl : _ = true) | exact (rfl : _ = false) | exact decide_eq_true (by first | assumption | omega) | exact decide_eq_false (by first | assumption | omega))))
    refine Giv.B (hp _ (hget i hi) k rfl) ?_
    (repeat (apply Giv.c; focus (first | assumption | exact (rfl : _ = true) | exact (rfl : _ = false) | exact decide_eq_true (by first | assumption | omega) | exact decide_eq_false (by first | assumption | omega))))
    exact Giv.ok ⟨(by intro h; cases h), rfl, (by repeat' (first | exact trivial | exact rfl | (refine ⟨?_, ?_⟩)))⟩
  · intro e hI
    obtain ⟨g, rfl⟩ := hI.elim 0
    (repeat (apply Giv.c; focus (first | assumption | exact (rfl : _ = true) | exact (rfl : _ = false) | exact decide_eq_true (by first | assumption | omega) | exact decide_eq_false (by first | assumption | omega))))
    exact Giv.ok ⟨(by intro h; cases h), rfl, (by repeat' (first | exact trivial | exact rfl | (refine ⟨?_, ?_⟩)))⟩
  · intro x e st h
    rcases h with ⟨i, hi, hT, hf, hx, hM⟩ | ⟨hf, hx, hM⟩
    · obtain ⟨g, rfl⟩ := hM.elim 0
      have hx : x = .ret := hx
      subst hx
      refine Giv.ok ⟨i, rfl, ?_⟩
      rw [any_of hi hT]
      exact decide_eq_true (by omega)
    · obtain ⟨g, rfl⟩ := hM.elim 0
      have hx : x = .exit 0 := hx
      subst hx
      refine Giv.ok ⟨-1, rfl, ?_⟩
      rw [any_not hf]
      rfl
theorem f41 (hX : Xok X) {k : Nat} {h : Nat} {caps : List HV} (hk : BB + 2 ≤ k) (l : List SetF) (hl : Len l) (p : SetF → Bool) (hok : okFn PP h = true)
    (hp : ∀ x ∈ l, ∀ j, j + 2 = k → callP PP X FF j h (nzs PP (paramsT PP h) [.agg (eSet x)] ++ caps) = some (.bool (p x))) : callP PP X FF k 41 [encL 2 eSet l, .fn h caps] = some (.bool (l.any p)) := by
  obtain ⟨k, rfl, hk⟩ := fuel_pos hk
  rw [call_eq hX rfl _ Go.Proofs.Try.func41]
  refine Giv.eq ?_
  obtain ⟨r, h1, h2⟩ := f75 (k := k) hX (by omega) l hl p hok (fun x hx j hj => hp x hx j (by omega))
  (repeat (apply Giv.c; focus (first | assumption | exact (rfl : _ = true) | exact (rfl : _ = false) | exact decide_eq_true (by first | assumption | omega) | exact decide_eq_false (by first | assumption | omega))))
  refine Giv.I h1 ?_
  exact Giv.ok (congrArg HV.bool h2)

theorem f103 (hX : Xok X) {k : Nat} {h : Nat} {caps : List HV} (hk : BB + 1 ≤ k) (l : List Counter) (hl : Len l) (p : Counter → Bool) (hok : okFn PP h = true)
    (hp : ∀ x ∈ l, ∀ j, j + 1 = k → callP PP X FF j h (nzs PP (paramsT PP h) [.agg (eCounter x)] ++ caps) = some (.bool (p x))) : ∃ r : Int, callP PP X FF k 103 [encL 3 eCounter l, .fn h caps] = some (.int .i64 r) ∧ decide (0 ≤ r) = l.any p := by
  unfold Len at hl
  obtain ⟨k, rfl, hk⟩ := fuel_pos hk
  rw [call_eq hX rfl _ Go.Proofs.Try.func103]
  have hget : ∀ i, i < l.length → l.getD i default ∈ l := fun i hi => by
    rw [List.getD_eq_getElem?_getD, List.getElem?_eq_getElem hi]; exact List.getElem_mem hi
  suffices hs : Giv (body ⟨PP, callP PP X FF k⟩ k Go.Proofs.Try.f103 [encL 3 eCounter l, .fn h caps]) (fun v => ∃ r : Int, v = .int .i64 r ∧ decide (0 ≤ r) = l.any p) by
    obtain ⟨v, h1, r, rfl, h2⟩ := hs
    exact ⟨r, h1, h2⟩
  refine Giv.O (scan l.length (fun i => p (l.getD i default)) (fun i e => Mt [some (encL 3 eCounter l), some (.fn h caps), none, none, none, none, none, some (.int .i64 l.length), some (.int .i64 i), none, none, none, none, none, none, none, none, none, none] e) (QT := fun i r => r.1 = .ret ∧ Mt [none, none, none, none, some (.int .i64 i), none, none, none, none, none, none, none, none, none, none, none, none, none, none] r.2.1) (QE := fun r => r.1 = .exit 0 ∧ Mt [none, none, none, none, none, none, none, none, none, none, none, none, none, none, none, none, none, none, none] r.2.1) (by repeat' (first | exact trivial | exact rfl | (refine ⟨?_, ?_⟩))) (by unfold BB at hk; omega) ?_ ?_ ?_) ?_
  · intro i e hi hT hI
    obtain ⟨g, rfl⟩ := hI.elim 0
    (repeat (apply Giv.c; focus (first | assumption | exact (rfl : _ = true) | exact (rfl : _ = false) | exact decide_eq_true (by first | assumption | omega) | exact decide_eq_false (by first | assumption | omega))))
    refine Giv.B (hp _ (hget i hi) k rfl) ?_
    (repeat (apply Giv.c; focus (first | assumption | exact (rfl : _ = true) | exact (rfl : _ = false) | exact decide_eq_true (by first | assumption | omega) | exact decide_eq_false (by first | assumption | omega))))
    exact Giv.ok ⟨rfl, (by repeat' (first | exact trivial | exact rfl | exact congrArg _ (wrap64 (by omega) (by omega)) | (refine ⟨?_, ?_⟩))), rfl⟩
  · intro i e hi hT hI
    obtain ⟨g, rfl⟩ := hI.elim 0
    (repeat (apply Giv.c; focus (first | assumption | exact (rfl : _ = true) | exact (rfl : _ = false) | exact decide_eq_true (by first | assumption | omega) | exact decide_eq_false (by first | assumption | omega))))
    refine Giv.B (hp _ (hget i hi) k rfl) ?_
    (repeat (apply Giv.c; focus (first | assumption | exact (rfl : _ = true) | exact (rfl : _ = false) | exact decide_eq_true (by first | assumption | omega) | exact decide_eq_false (by first | assumption | omega))))
    exact Giv.ok ⟨(by intro h; cases h), rfl, (by repeat' (first | exact trivial | exact rfl | (refine ⟨?_, ?_⟩)))⟩
  · intro e hI
    obtain ⟨g, rfl⟩ := hI.elim 0
    (repeat (apply Giv.c; focus (first | assumption | exact (rfl : _ = true) | exact (rfl : _ = false) | exact decide_eq_true (by first | assumption | omega) | exact decide_eq_false (by first | assumption | omega))))
    exact Giv.ok ⟨(by intro h; cases h), rfl, (by repeat' (first | exact trivial | exact rfl | (refine ⟨?_, ?_⟩)))⟩
  · intro x e st h
    rcases h with ⟨i, hi, hT, hf, hx, hM⟩ | ⟨hf, hx, hM⟩
    · obtain ⟨g, rfl⟩ := hM.elim 0
      have hx : x = .ret := hx
      subst hx
      refine Giv.ok ⟨i, rfl, ?_⟩
      rw [any_of hi hT]
      exact decide_eq_true (by omega)
    · obtain ⟨g, rfl⟩ := hM.elim 0
      have hx : x = .exit 0 := hx
      subst hx
      refine Giv.ok ⟨-1, rfl, ?_⟩
      rw [any_not hf]
      rfl
theorem f68 (hX : Xok X) {k : Nat} {h : Nat} {caps : List HV} (hk : BB + 2 ≤ k) (l : List Counter) (hl : Len l) (p : Counter → Bool) (hok : okFn PP h = true)
    (hp : ∀ x ∈ l, ∀ j, j + 2 = k → callP PP X FF j h (nzs PP (paramsT PP h) [.agg (eCounter x)] ++ caps) = some (.bool (p x))) : callP PP X FF k 68 [encL 3 eCounter l, .fn h caps] = some (.bool (l.any p)) := by
  obtain ⟨k, rfl, hk⟩ := fuel_pos hk
  rw [call_eq hX rfl _ Go.Proofs.Try.func68]
  refine Giv.eq ?_
  obtain ⟨r, h1, h2⟩ := f103 (k := k) hX (by omega) l hl p hok (fun x hx j hj => hp x hx j (by omega))
  (repeat (apply Giv.c; focus (first | assumption | exact (rfl : _ = true) | exact (rfl : _ = false) | exact decide_eq_true (by first | assumption | omega) | exact decide_eq_false (by first | assumption | omega))))
  refine Giv.I h1 ?_
  exact Giv.ok (congrArg HV.bool h2)

theorem f117 (hX : Xok X) {k : Nat} {h : Nat} {caps : List HV} (hk : BB + 1 ≤ k) (l : List Cond) (hl : Len l) (p : Cond → Bool) (hok : okFn PP h = true)
    (hp : ∀ x ∈ l, ∀ j, j + 1 = k → callP PP X FF j h (nzs PP (paramsT PP h) [.agg (eCond x)] ++ caps) = some (.bool (p x))) : ∃ r : Int, callP PP X FF k 117 [encL 3 eCond l, .fn h caps] = some (.int .i64 r) ∧ decide (0 ≤ r) = l.any p := by
  unfold Len at hl
  obtain ⟨k, rfl, hk⟩ := fuel_pos hk
  rw [call_eq hX rfl _ Go.Proofs.Try.func117]
  have hget : ∀ i, i < l.length → l.getD i default ∈ l := fun i hi => by
    rw [List.getD_eq_getElem?_getD, List.getElem?_eq_getElem hi]; exact List.getElem_mem hi
  suffices hs : Giv (body ⟨PP, callP PP X FF k⟩ k Go.Proofs.Try.f117 [encL 3 eCond l, .fn h caps]) (fun v => ∃ r : Int, v = .int .i64 r ∧ decide (0 ≤ r) = l.any p) by
    obtain ⟨v, h1, r, rfl, h2⟩ := hs
    exact ⟨r, h1, h2⟩
  refine Giv.O (scan l.length (fun i => p (l.getD i default)) (fun i e => Mt [some (encL 3 eCond l), some (.fn h caps), none, none, none, none, none, some (.int .i64 l.length), some (.int .i64 i), none, none, none, none, none, none, none, none, none, none] e) (QT := fun i r => r.1 = .ret ∧ Mt [none, none, none, none, some (.int .i64 i), none, none, none, none, none, none, none, none, none, none, none, none, none, none] r.2.1) (QE := fun r => r.1 = .exit 0 ∧ Mt [none, none, none, none, none, none, none, none, none, none, none, none, none, none, none, none, none, none, none] r.2.1) (by repeat' (first | exact trivial | exact rfl | (refine ⟨?_, ?_⟩))) (by unfold BB at hk; omega) ?_ ?_ ?_) ?_
  · intro i e hi hT hI
    obtain ⟨g, rfl⟩ := hI.elim 0
    (repeat (apply Giv.c; focus (first | assumption | exact (rfl : _ = true) | exact (rfl : _ = false) | exact decide_eq_true (by first | assumption | omega) | exact decide_eq_false (by first | assumption | omega))))
    refine Giv.B (hp _ (hget i hi) k rfl) ?_
    (repeat (apply Giv.c; focus (first | assumption | exact (rfl : _ = true) | exact (rfl : _ = false) | exact decide_eq_true (by first | assumption | omega) | exact decide_eq_false (by first | assumption | omega))))
    exact Giv.ok ⟨rfl, (by repeat' (first | exact trivial | exact rfl | exact congrArg _ (wrap64 (by omega) (by omega)) | (refine ⟨?_, ?_⟩))), rfl⟩
  · intro i e hi hT hI
    obtain ⟨g, rfl⟩ := hI.elim 0
    (repeat (apply Giv.c; focus (first | assumption | exact (rfl : _ = true) | exact (rfl : _ = false) | exact decide_eq_true (by first | assumption | omega) | exact decide_eq_false (by first | assumption | omega))))
    refine Giv.B (hp _ (hget i hi) k rfl) ?_
    (repeat (apply Giv.c; focus (first | assumption | exact (rfl : _ = true) | exact (rfl : _ = false) | exact decide_eq_true (by first | assumption | omega) | exact decide_eq_false (by first | assumption | omega))))
    exact Giv.ok ⟨(by intro h; cases h), rfl, (by repeat' (first | exact trivial | exact rfl | (refine ⟨?_, ?_⟩)))⟩
  · intro e hI
    obtain ⟨g, rfl⟩ := hI.elim 0
    (repeat (apply Giv.c; focus (first | assumption | exact (rfl : _ = true) | exact (rfl : _ = false) | exact decide_eq_true (by first | assumption | omega) | exact decide_eq_false (by first | assumption | omega))))
    exact Giv.ok ⟨(by intro h; cases h), rfl, (by repeat' (first | exact trivial | exact rfl | (refine ⟨?_, ?_⟩)))⟩
  · intro x e st h
    rcases h with ⟨i, hi, hT, hf, hx, hM⟩ | ⟨hf, hx, hM⟩
    · obtain ⟨g, rfl⟩ := hM.elim 0
      have hx : x = .ret := hx
      subst hx
      refine Giv.ok ⟨i, rfl, ?_⟩
      rw [any_of hi hT]
      exact decide_eq_true (by omega)
    · obtain ⟨g, rfl⟩ := hM.elim 0
      have hx : x = .exit 0 := hx
      subst hx
      refine Giv.ok ⟨-1, rfl, ?_⟩
      rw [any_not hf]
      rfl
theorem f100 (hX : Xok X) {k : Nat} {h : Nat} {caps : List HV} (hk : BB + 2 ≤ k) (l : List Cond) (hl : Len l) (p : Cond → Bool) (hok : okFn PP h = true)
    (hp : ∀ x ∈ l, ∀ j, j + 2 = k → callP PP X FF j h (nzs PP (paramsT PP h) [.agg (eCond x)] ++ caps) = some (.bool (p x))) : callP PP X FF k 100 [encL 3 eCond l, .fn h caps] = some (.bool (l.any p)) := by
  obtain ⟨k, rfl, hk⟩ := fuel_pos hk
  rw [call_eq hX rfl _ Go.Proofs.Try.func100]
  refine Giv.eq ?_
  obtain ⟨r, h1, h2⟩ := f117 (k := k) hX (by omega) l hl p hok (fun x hx j hj => hp x hx j (by omega))
  (repeat (apply Giv.c; focus (first | assumption | exact (rfl : _ = true) | exact (rfl : _ = false) | exact decide_eq_true (by first | assumption | omega) | exact decide_eq_false (by first | assumption | omega))))
  refine Giv.I h1 ?_
  exact Giv.ok (congrArg HV.bool h2)
end
end Go.Rul
end

section
namespace Go.Rul
open Go.Eng
set_option maxRecDepth 100000
set_option linter.unusedVariables false

theorem lst_nthC {α : Type} [Inhabited α] (sz : Nat) (enc : α → List HV) (l : List α) : HV.lst sz l.length (nthC (l.map enc) (enc default)) = encL sz enc l := by
  unfold encL nthC
  congr 1
  funext i
  rw [List.getD_eq_getElem?_getD, List.getD_eq_getElem?_getD, List.getElem?_map]
  cases l[i]? <;> rfl

/-- The operators. -/
def opsL : List ByteArray := [⟨#[60]⟩, ⟨#[60, 61]⟩, ⟨#[61]⟩, ⟨#[33, 61]⟩, ⟨#[62, 61]⟩, ⟨#[62]⟩]
def condB (files : List ByteArray) (x : Cond) : Bool := files.any (fun y => decide (y = x.file)) && opsL.any (fun y => decide (y = x.op))
def ruleB (p : Pr) (r : Rule) : Bool := inB r.stratum 1 21 && decide (r.thens.length ≠ 0) && r.ifs.all (fun x => inB x.flag 0 p.flags) && r.thens.all (fun x => inB x.flag 0 p.flags) && r.conds.all (condB p.files)
structure OkRule (r : Rule) : Prop where
  ifs : Len r.ifs
  conds : Len r.conds
  thens : Len r.thens
structure OkPr (p : Pr) : Prop where
  first : Len p.first
  over : Len p.over
  files : Len p.files
  rules : Len p.rules
  counters : Len p.counters
  users : Len p.users
  notes : Len p.notes
  rule : ∀ r ∈ p.rules, OkRule r
  user : ∀ u ∈ p.users, Len u.while_

section
variable {X : Ext}

theorem f96 (hX : Xok X) {k : Nat} (hk : BB + 1 ≤ k) (l : List ByteArray) (hl : Len l) (s : ByteArray) : ∃ r : Int, callP PP X FF k 96 [encL 1 eStr l, .str s] = some (.int .i64 r) ∧ decide (0 ≤ r) = l.any fun y => decide (y = s) := by
  unfold Len at hl
  obtain ⟨k, rfl, hk⟩ := fuel_pos hk
  rw [call_eq hX rfl _ Go.Proofs.Try.func96]
  suffices hs : Giv (body ⟨PP, callP PP X FF k⟩ k Go.Proofs.Try.f96 [encL 1 eStr l, .str s]) (fun v => ∃ r : Int, v = .int .i64 r ∧ decide (0 ≤ r) = l.any fun y => decide (y = s)) by
    obtain ⟨v, h1, r, rfl, h2⟩ := hs
    exact ⟨r, h1, h2⟩
  refine Giv.O (scan l.length (fun i => decide (s = l.getD i default)) (fun i e => Mt [some (encL 1 eStr l), some (.str s), none, none, none, none, none, some (.int .i64 l.length), some (.int .i64 i), none, none, none, none, none, none, none, none, none, none] e) (QT := fun i r => r.1 = .ret ∧ Mt [none, none, none, none, some (.int .i64 i), none, none, none, none, none, none, none, none, none, none, none, none, none, none] r.2.1) (QE := fun r => r.1 = .exit 0 ∧ Mt [none, none, none, none, none, none, none, none, none, none, none, none, none, none, none, none, none, none, none] r.2.1) (by repeat' (first | exact trivial | exact rfl | (refine ⟨?_, ?_⟩))) (by unfold BB at hk; omega) ?_ ?_ ?_) ?_
  · intro i e hi hT hI
    obtain ⟨g, rfl⟩ := hI.elim 0
    (repeat (apply Giv.c; focus (first | assumption | exact (rfl : _ = true) | exact (rfl : _ = false) | exact decide_eq_true (by first | assumption | omega) | exact decide_eq_false (by first | assumption | omega))))
    exact Giv.ok ⟨rfl, (by repeat' (first | exact trivial | exact rfl | exact congrArg _ (wrap64 (by omega) (by omega)) | (refine ⟨?_, ?_⟩))), rfl⟩
  · intro i e hi hT hI
    obtain ⟨g, rfl⟩ := hI.elim 0
    (repeat (apply Giv.c; focus (first | assumption | exact (rfl : _ = true) | exact (rfl : _ = false) | exact decide_eq_true (by first | assumption | omega) | exact decide_eq_false (by first | assumption | omega))))
    exact Giv.ok ⟨(by intro h; cases h), rfl, (by repeat' (first | exact trivial | exact rfl | (refine ⟨?_, ?_⟩)))⟩
  · intro e hI
    obtain ⟨g, rfl⟩ := hI.elim 0
    (repeat (apply Giv.c; focus (first | assumption | exact (rfl : _ = true) | exact (rfl : _ = false) | exact decide_eq_true (by first | assumption | omega) | exact decide_eq_false (by first | assumption | omega))))
    exact Giv.ok ⟨(by intro h; cases h), rfl, (by repeat' (first | exact trivial | exact rfl | (refine ⟨?_, ?_⟩)))⟩
  · intro x e st h
    rcases h with ⟨i, hi, hT, hf, hx, hM⟩ | ⟨hf, hx, hM⟩
    · obtain ⟨g, rfl⟩ := hM.elim 0
      have hx : x = .ret := hx
      subst hx
      refine Giv.ok ⟨i, rfl, ?_⟩
      rw [any_of (p := fun y => decide (y = s)) hi (by simpa [eq_comm] using hT)]
      exact decide_eq_true (by omega)
    · obtain ⟨g, rfl⟩ := hM.elim 0
      have hx : x = .exit 0 := hx
      subst hx
      refine Giv.ok ⟨-1, rfl, ?_⟩
      rw [any_not (p := fun y => decide (y = s)) (fun j hj => by simpa [eq_comm] using hf j hj)]
      rfl
theorem f66 (hX : Xok X) {k : Nat} (hk : BB + 2 ≤ k) (l : List ByteArray) (hl : Len l) (s : ByteArray) : callP PP X FF k 66 [encL 1 eStr l, .str s] = some (.bool (l.any fun y => decide (y = s))) := by
  obtain ⟨k, rfl, hk⟩ := fuel_pos hk
  rw [call_eq hX rfl _ Go.Proofs.Try.func66]
  refine Giv.eq ?_
  obtain ⟨r, h1, h2⟩ := f96 (k := k) hX (by omega) l hl s
  (repeat (apply Giv.c; focus (first | assumption | exact (rfl : _ = true) | exact (rfl : _ = false) | exact decide_eq_true (by first | assumption | omega) | exact decide_eq_false (by first | assumption | omega))))
  refine Giv.I h1 ?_
  exact Giv.ok (congrArg HV.bool h2)

theorem e97 (X : Ext) (k : Nat) (n : Int) (p : Pr) :
    (body ⟨PP, callP PP X FF k⟩ k Go.Proofs.Try.f97 [.int .i64 n, .ptr (ePr p) 0]) =
    bndB (callP PP X FF k 28 [HV.int IntKind.i64 n, HV.int IntKind.i64 (0), HV.int IntKind.i64 p.flags]) fun b => some (HV.bool !b) := by kernel_rfl
theorem f97 (hX : Xok X) {k : Nat} (hk : BB + 2 ≤ k) (n : Int) (p : Pr) : callP PP X FF k 97 [.int .i64 n, .ptr (ePr p) 0] = some (.bool (!inB n 0 p.flags)) := by
  obtain ⟨k, rfl, hk⟩ := fuel_pos hk
  rw [call_eq hX rfl _ Go.Proofs.Try.func97, e97]
  refine Giv.eq ?_
  exact Giv.B (f28 (k := k) hX (by omega) _ _ _) (Giv.ok rfl)
theorem e98 (X : Ext) (k : Nat) (x : Lit) (p : Pr) :
    (body ⟨PP, callP PP X FF k⟩ k Go.Proofs.Try.f98 [.agg (eLit x), .ptr [.fn 97 [.ptr (ePr p) 0]] 0]) =
    bndB (callP PP X FF k 97 [HV.int IntKind.i64 x.flag, HV.ptr (ePr p) 0]) fun b => some (HV.bool b) := by kernel_rfl
theorem f98 (hX : Xok X) {k : Nat} (hk : BB + 3 ≤ k) (x : Lit) (p : Pr) : callP PP X FF k 98 [.agg (eLit x), .ptr [.fn 97 [.ptr (ePr p) 0]] 0] = some (.bool (!inB x.flag 0 p.flags)) := by
  obtain ⟨k, rfl, hk⟩ := fuel_pos hk
  rw [call_eq hX rfl _ Go.Proofs.Try.func98, e98]
  refine Giv.eq ?_
  exact Giv.B (f97 (k := k) hX (by omega) _ p) (Giv.ok rfl)
theorem e99 (X : Ext) (k : Nat) (x : SetF) (p : Pr) :
    (body ⟨PP, callP PP X FF k⟩ k Go.Proofs.Try.f99 [.agg (eSet x), .ptr [.fn 97 [.ptr (ePr p) 0]] 0]) =
    bndB (callP PP X FF k 97 [HV.int IntKind.i64 x.flag, HV.ptr (ePr p) 0]) fun b => some (HV.bool b) := by kernel_rfl
theorem f99 (hX : Xok X) {k : Nat} (hk : BB + 3 ≤ k) (x : SetF) (p : Pr) : callP PP X FF k 99 [.agg (eSet x), .ptr [.fn 97 [.ptr (ePr p) 0]] 0] = some (.bool (!inB x.flag 0 p.flags)) := by
  obtain ⟨k, rfl, hk⟩ := fuel_pos hk
  rw [call_eq hX rfl _ Go.Proofs.Try.func99, e99]
  refine Giv.eq ?_
  exact Giv.B (f97 (k := k) hX (by omega) _ p) (Giv.ok rfl)
theorem f38 (hX : Xok X) {k : Nat} (hk : BB + 1 ≤ k) (x : Lit) (n : Int) : callP PP X FF k 38 [.agg (eLit x), .ptr [.int .i64 n] 0] = some (.bool (decide (x.flag = n))) := by
  obtain ⟨k, rfl, hk⟩ := fuel_pos hk
  rw [call_eq hX rfl _ Go.Proofs.Try.func38]
  refine Giv.eq ?_
  exact Giv.ok rfl
theorem f42 (hX : Xok X) {k : Nat} (hk : BB + 1 ≤ k) (x : SetF) (n : Int) : callP PP X FF k 42 [.agg (eSet x), .ptr [.int .i64 n] 0] = some (.bool (decide (x.flag = n))) := by
  obtain ⟨k, rfl, hk⟩ := fuel_pos hk
  rw [call_eq hX rfl _ Go.Proofs.Try.func42]
  refine Giv.eq ?_
  exact Giv.ok rfl
theorem e36 (X : Ext) (k : Nat) (r : Rule) (n : Int) :
    (body ⟨PP, callP PP X FF k⟩ k Go.Proofs.Try.f36 [.agg (eRule r), .ptr [.int .i64 n] 0]) =
    bndB (callP PP X FF k 37 [HV.lst 2 r.ifs.length fun i => eLit (r.ifs.getD i default), HV.fn 38 [HV.ptr [HV.int IntKind.i64 n] 0]]) fun b => some (HV.bool b) := by kernel_rfl
theorem f36 (hX : Xok X) {k : Nat} (hk : BB + 4 ≤ k) (r : Rule) (hr : OkRule r) (n : Int) : callP PP X FF k 36 [.agg (eRule r), .ptr [.int .i64 n] 0] = some (.bool (r.ifs.any fun x => decide (x.flag = n))) := by
  obtain ⟨k, rfl, hk⟩ := fuel_pos hk
  rw [call_eq hX rfl _ Go.Proofs.Try.func36, e36]
  refine Giv.eq ?_
  exact Giv.B (f37 (k := k) hX (by omega) r.ifs hr.ifs (fun x => decide (x.flag = n)) (h := 38) (caps := [.ptr [.int .i64 n] 0]) rfl (fun x _ j hj => f38 hX (by omega) x n)) (Giv.ok rfl)
theorem e40 (X : Ext) (k : Nat) (r : Rule) (n : Int) :
    (body ⟨PP, callP PP X FF k⟩ k Go.Proofs.Try.f40 [.agg (eRule r), .ptr [.int .i64 n] 0]) =
    bndB (callP PP X FF k 41 [HV.lst 2 r.thens.length fun i => eSet (r.thens.getD i default), HV.fn 42 [HV.ptr [HV.int IntKind.i64 n] 0]]) fun b => some (HV.bool b) := by kernel_rfl
theorem f40 (hX : Xok X) {k : Nat} (hk : BB + 4 ≤ k) (r : Rule) (hr : OkRule r) (n : Int) : callP PP X FF k 40 [.agg (eRule r), .ptr [.int .i64 n] 0] = some (.bool (r.thens.any fun x => decide (x.flag = n))) := by
  obtain ⟨k, rfl, hk⟩ := fuel_pos hk
  rw [call_eq hX rfl _ Go.Proofs.Try.func40, e40]
  refine Giv.eq ?_
  exact Giv.B (f41 (k := k) hX (by omega) r.thens hr.thens (fun x => decide (x.flag = n)) (h := 42) (caps := [.ptr [.int .i64 n] 0]) rfl (fun x _ j hj => f42 hX (by omega) x n)) (Giv.ok rfl)
theorem e102 (X : Ext) (k : Nat) (p : Pr) (x : Cond) :
    (body ⟨PP, callP PP X FF k⟩ k Go.Proofs.Try.f102 [.agg (ePr p), .agg (eCond x)]) =
    bndB (callP PP X FF k 66 [HV.lst 1 p.files.length fun i => eStr (p.files.getD i default), HV.str x.file]) fun b => br b (bndB (callP PP X FF k 66 [HV.lst 1 6 (nthC [[HV.str { data := #[60] }], [HV.str { data := #[60, 61] }], [HV.str { data := #[61] }], [HV.str { data := #[33, 61] }], [HV.str { data := #[62, 61] }], [HV.str { data := #[62] }]] [HV.str ByteArray.empty]), HV.str x.op]) fun b => some (HV.bool b)) (some (HV.bool false)) := by kernel_rfl
theorem f102 (hX : Xok X) {k : Nat} (hk : BB + 3 ≤ k) (p : Pr) (hp : OkPr p) (x : Cond) : callP PP X FF k 102 [.agg (ePr p), .agg (eCond x)] = some (.bool (condB p.files x)) := by
  obtain ⟨k, rfl, hk⟩ := fuel_pos hk
  rw [call_eq hX rfl _ Go.Proofs.Try.func102, e102]
  refine Giv.eq ?_
  refine Giv.B (f66 (k := k) hX (by omega) p.files hp.files x.file) ?_
  refine Giv.b (fun hb => ?_) (fun hb => ?_)
  · refine Giv.B (b := opsL.any fun y => decide (y = x.op)) ?_ (Giv.ok (by simp [condB, hb]))
    refine Eq.trans (congrArg (callP PP X FF k 66) (a₂ := [encL 1 eStr opsL, .str x.op]) ?_) (f66 (k := k) hX (by omega) opsL (by unfold Len opsL; decide) x.op)
    exact congrArg (fun y => [y, HV.str x.op]) (lst_nthC 1 eStr opsL)
  · exact Giv.ok (by simp [condB, hb])
theorem e101 (X : Ext) (k : Nat) (x : Cond) (p : Pr) :
    (body ⟨PP, callP PP X FF k⟩ k Go.Proofs.Try.f101 [.agg (eCond x), .ptr (ePr p) 0]) =
    bndB (callP PP X FF k 102 [HV.agg [HV.int IntKind.i64 p.flags, HV.int IntKind.i64 p.lasting, encL 1 I64 p.first, encL 1 I64 p.over, HV.int IntKind.i64 p.from_, encL 1 eStr p.files, encL 4 eRule p.rules, encL 3 eCounter p.counters, encL 4 eUser p.users, encL 7 eItem p.notes], HV.agg [HV.str x.file, HV.str x.op, HV.int IntKind.i64 x.n]]) fun b => some (HV.bool !b) := by kernel_rfl
theorem f101 (hX : Xok X) {k : Nat} (hk : BB + 4 ≤ k) (x : Cond) (p : Pr) (hp : OkPr p) : callP PP X FF k 101 [.agg (eCond x), .ptr (ePr p) 0] = some (.bool (!condB p.files x)) := by
  obtain ⟨k, rfl, hk⟩ := fuel_pos hk
  rw [call_eq hX rfl _ Go.Proofs.Try.func101, e101]
  refine Giv.eq ?_
  exact Giv.B (f102 (k := k) hX (by omega) p hp x) (Giv.ok rfl)
theorem any_not_all {α : Type} (l : List α) (p : α → Bool) : (!l.any fun x => !p x) = l.all p := by
  induction l with
  | nil => rfl
  | cons x l ih => simp only [List.any_cons, List.all_cons, Bool.not_or, Bool.not_not, ih]
theorem e67 (X : Ext) (k : Nat) (p : Pr) (r : Rule) :
    (body ⟨PP, callP PP X FF k⟩ k Go.Proofs.Try.f67 [.agg (ePr p), .agg (eRule r)]) =
    bndB (callP PP X FF k 28 [HV.int IntKind.i64 r.stratum, HV.int IntKind.i64 (1), HV.int IntKind.i64 (21)]) fun b => br (!b) (some (HV.bool false)) (br (decide ((↑r.thens.length : Int) = 0)) (some (HV.bool false)) (bndB (callP PP X FF k 37 [HV.lst 2 r.ifs.length fun i => eLit (r.ifs.getD i default), HV.fn 98 [HV.ptr [HV.fn 97 [HV.ptr [HV.int IntKind.i64 p.flags, HV.int IntKind.i64 p.lasting, encL 1 I64 p.first, encL 1 I64 p.over, HV.int IntKind.i64 p.from_, encL 1 eStr p.files, encL 4 eRule p.rules, encL 3 eCounter p.counters, encL 4 eUser p.users, encL 7 eItem p.notes] 0]] 0]]) fun b => br (!b) (bndB (callP PP X FF k 41 [HV.lst 2 r.thens.length fun i => eSet (r.thens.getD i default), HV.fn 99 [HV.ptr [HV.fn 97 [HV.ptr [HV.int IntKind.i64 p.flags, HV.int IntKind.i64 p.lasting, encL 1 I64 p.first, encL 1 I64 p.over, HV.int IntKind.i64 p.from_, encL 1 eStr p.files, encL 4 eRule p.rules, encL 3 eCounter p.counters, encL 4 eUser p.users, encL 7 eItem p.notes] 0]] 0]]) fun b => br (!b) (bndB (callP PP X FF k 100 [HV.lst 3 r.conds.length fun i => eCond (r.conds.getD i default), HV.fn 101 [HV.ptr [HV.int IntKind.i64 p.flags, HV.int IntKind.i64 p.lasting, encL 1 I64 p.first, encL 1 I64 p.over, HV.int IntKind.i64 p.from_, encL 1 eStr p.files, encL 4 eRule p.rules, encL 3 eCounter p.counters, encL 4 eUser p.users, encL 7 eItem p.notes] 0]]) fun b => some (HV.bool !b)) (some (HV.bool false))) (some (HV.bool false)))) := by kernel_rfl
theorem f67 (hX : Xok X) {k : Nat} (hk : BB + 8 ≤ k) (p : Pr) (hp : OkPr p) (r : Rule) (hr : OkRule r) : callP PP X FF k 67 [.agg (ePr p), .agg (eRule r)] = some (.bool (ruleB p r)) := by
  obtain ⟨k, rfl, hk⟩ := fuel_pos hk
  rw [call_eq hX rfl _ Go.Proofs.Try.func67, e67]
  refine Giv.eq ?_
  refine Giv.B (f28 (k := k) hX (by omega) r.stratum 1 21) ?_
  refine Giv.b (fun h1 => Giv.ok ?_) (fun h1 => ?_)
  · simp at h1; simp [ruleB, h1]
  refine Giv.p (fun h2 => Giv.ok ?_) (fun h2 => ?_)
  · have h2 : r.thens.length = 0 := by omega
    simp [ruleB, h2]
  refine Giv.B (f37 (k := k) hX (by omega) r.ifs hr.ifs (fun x => !inB x.flag 0 p.flags) (h := 98) (caps := [.ptr [.fn 97 [.ptr (ePr p) 0]] 0]) rfl (fun x _ j hj => f98 hX (by omega) x p)) ?_
  have e1 := any_not_all r.ifs (fun x => inB x.flag 0 p.flags)
  have e2 := any_not_all r.thens (fun x => inB x.flag 0 p.flags)
  have e3 := any_not_all r.conds (condB p.files)
  simp at h1
  have h2 : ¬ r.thens = [] := by intro h; apply h2; simp [h]
  rw [e1]
  refine Giv.b (fun h3 => ?_) (fun h3 => Giv.ok ?_)
  · refine Giv.B (f41 (k := k) hX (by omega) r.thens hr.thens (fun x => !inB x.flag 0 p.flags) (h := 99) (caps := [.ptr [.fn 97 [.ptr (ePr p) 0]] 0]) rfl (fun x _ j hj => f99 hX (by omega) x p)) ?_
    rw [e2]
    refine Giv.b (fun h4 => ?_) (fun h4 => Giv.ok ?_)
    · refine Giv.B (f100 (k := k) hX (by omega) r.conds hr.conds (fun x => !condB p.files x) (h := 101) (caps := [.ptr (ePr p) 0]) rfl (fun x _ j hj => f101 hX (by omega) x p hp)) (Giv.ok ?_)
      rw [e3]
      simp only [ruleB, h1, h3, h4]
      simp [h2]
    · simp only [ruleB, h4]; simp
  · simp only [ruleB, h3]; simp
end
end Go.Rul
end

section
namespace Go.Rul
open Go.Eng
set_option maxRecDepth 100000
set_option linter.unusedVariables false

def riseT (l : List Int) (n : Int) (i : Nat) : Bool := !inB (l.getD i default) 0 n || (decide (0 < i) && decide (l.getD i default ≤ l.getD (i - 1) default))
def risB (l : List Int) (n : Int) : Bool := (List.range l.length).all fun i => !riseT l n i
theorem rng_of {n : Nat} {T : Nat → Bool} (h : ∀ j, j < n → T j = false) : ((List.range n).all fun i => !T i) = true := by
  rw [List.all_eq_true]; intro i hi; rw [h i (List.mem_range.1 hi)]; rfl
theorem rng_not {n : Nat} {T : Nat → Bool} {i : Nat} (hi : i < n) (h : T i = true) : ((List.range n).all fun i => !T i) = false := by
  cases hb : (List.range n).all fun i => !T i with
  | false => rfl
  | true => have := List.all_eq_true.1 hb i (List.mem_range.2 hi); simp [h] at this
def counterB (p : Pr) (x : Counter) : Bool := inB x.while_ 0 p.lasting && inB x.limit 1 101 && inB x.then_ p.lasting p.flags

section
variable {X : Ext}

theorem e70 (X : Ext) (k : Nat) (p : Pr) (n : Int) :
    (body ⟨PP, callP PP X FF k⟩ k Go.Proofs.Try.f70 [.agg (ePr p), .int .i64 n]) =
    bndB (callP PP X FF k 28 [HV.int IntKind.i64 n, HV.int IntKind.i64 p.lasting, HV.int IntKind.i64 p.flags]) fun b => some (HV.bool b) := by kernel_rfl
theorem f70 (hX : Xok X) {k : Nat} (hk : BB + 2 ≤ k) (p : Pr) (n : Int) : callP PP X FF k 70 [.agg (ePr p), .int .i64 n] = some (.bool (inB n p.lasting p.flags)) := by
  obtain ⟨k, rfl, hk⟩ := fuel_pos hk
  rw [call_eq hX rfl _ Go.Proofs.Try.func70, e70]
  refine Giv.eq ?_
  exact Giv.B (f28 (k := k) hX (by omega) _ _ _) (Giv.ok rfl)
theorem e71 (X : Ext) (k : Nat) (x : Lit) (p : Pr) :
    (body ⟨PP, callP PP X FF k⟩ k Go.Proofs.Try.f71 [.agg (eLit x), .ptr (ePr p) 0]) =
    bndB (callP PP X FF k 28 [HV.int IntKind.i64 x.flag, HV.int IntKind.i64 (0), HV.int IntKind.i64 p.lasting]) fun b => some (HV.bool !b) := by kernel_rfl
theorem f71 (hX : Xok X) {k : Nat} (hk : BB + 2 ≤ k) (x : Lit) (p : Pr) : callP PP X FF k 71 [.agg (eLit x), .ptr (ePr p) 0] = some (.bool (!inB x.flag 0 p.lasting)) := by
  obtain ⟨k, rfl, hk⟩ := fuel_pos hk
  rw [call_eq hX rfl _ Go.Proofs.Try.func71, e71]
  refine Giv.eq ?_
  exact Giv.B (f28 (k := k) hX (by omega) _ _ _) (Giv.ok rfl)
theorem e69 (X : Ext) (k : Nat) (x : Counter) (p : Pr) :
    (body ⟨PP, callP PP X FF k⟩ k Go.Proofs.Try.f69 [.agg (eCounter x), .ptr (ePr p) 0]) =
    bndB (callP PP X FF k 28 [HV.int IntKind.i64 x.while_, HV.int IntKind.i64 (0), HV.int IntKind.i64 p.lasting]) fun b => br (!b) (some (HV.bool true)) (bndB (callP PP X FF k 28 [HV.int IntKind.i64 x.limit, HV.int IntKind.i64 (1), HV.int IntKind.i64 (101)]) fun b => br (!b) (some (HV.bool true)) (bndB (callP PP X FF k 70 [HV.agg [HV.int IntKind.i64 p.flags, HV.int IntKind.i64 p.lasting, encL 1 I64 p.first, encL 1 I64 p.over, HV.int IntKind.i64 p.from_, encL 1 eStr p.files, encL 4 eRule p.rules, encL 3 eCounter p.counters, encL 4 eUser p.users, encL 7 eItem p.notes], HV.int IntKind.i64 x.then_]) fun b => some (HV.bool !b))) := by kernel_rfl
theorem f69 (hX : Xok X) {k : Nat} (hk : BB + 3 ≤ k) (x : Counter) (p : Pr) : callP PP X FF k 69 [.agg (eCounter x), .ptr (ePr p) 0] = some (.bool (!counterB p x)) := by
  obtain ⟨k, rfl, hk⟩ := fuel_pos hk
  rw [call_eq hX rfl _ Go.Proofs.Try.func69, e69]
  refine Giv.eq ?_
  refine Giv.B (f28 (k := k) hX (by omega) x.while_ 0 p.lasting) ?_
  refine Giv.b (fun h1 => ?_) (fun h1 => ?_)
  · (repeat (apply Giv.c; focus (first | assumption | exact (rfl : _ = true) | exact (rfl : _ = false) | exact decide_eq_true (by first | assumption | omega) | exact decide_eq_false (by first | assumption | omega))))
    exact Giv.ok (by simp at h1; simp [counterB, h1])
  · refine Giv.B (f28 (k := k) hX (by omega) x.limit 1 101) ?_
    refine Giv.b (fun h2 => ?_) (fun h2 => ?_)
    · exact Giv.ok (by simp at h2; simp [counterB, h2])
    · refine Giv.B (f70 (k := k) hX (by omega) p x.then_) (Giv.ok ?_)
      simp at h1 h2
      simp [counterB, h1, h2]
theorem e32 (X : Ext) (k : Nat) (p : Pr) :
    (body ⟨PP, callP PP X FF k⟩ k Go.Proofs.Try.f32 [.agg (ePr p)]) =
    bndB (callP PP X FF k 68 [HV.lst 3 p.counters.length fun i => eCounter (p.counters.getD i default), HV.fn 69 [HV.ptr [HV.int IntKind.i64 p.flags, HV.int IntKind.i64 p.lasting, encL 1 I64 p.first, encL 1 I64 p.over, HV.int IntKind.i64 p.from_, encL 1 eStr p.files, encL 4 eRule p.rules, encL 3 eCounter p.counters, encL 4 eUser p.users, encL 7 eItem p.notes] 0]]) fun b => some (HV.bool !b) := by kernel_rfl
theorem f32 (hX : Xok X) {k : Nat} (hk : BB + 6 ≤ k) (p : Pr) (hp : OkPr p) : callP PP X FF k 32 [.agg (ePr p)] = some (.bool (p.counters.all (counterB p))) := by
  obtain ⟨k, rfl, hk⟩ := fuel_pos hk
  rw [call_eq hX rfl _ Go.Proofs.Try.func32, e32]
  refine Giv.eq ?_
  refine Giv.B (f68 (k := k) hX (by omega) p.counters hp.counters (fun x => !counterB p x) (h := 69) (caps := [.ptr (ePr p) 0]) rfl (fun x _ j hj => f69 hX (by omega) x p)) (Giv.ok ?_)
  rw [any_not_all]
theorem r29 (X : Ext) (k : Nat) (p : Pr) (l : List Int) (i : Nat) (g : Nat → HV) :
    (evC ⟨PP, callP PP X FF k⟩ k (subC (fnCode PP 29) [1, 0, 1, 0, 0]) Out (fillP [none, some (encL 1 I64 l), some (.ptr (ePr p) 0), none, none, none, none, some (encL 1 I64 l), some (.int .i64 l.length), some (.int .i64 i), none, none, none, none, none, none, none, none, none, none, none, none, none, none, none, none, none, none, none, none, none, none, none] 0 g) [] fun x e st => some (x, e, st)) =
    br (decide ((↑i : Int) < (↑l.length : Int)))
  (br (decide (0 ≤ (↑i : Int) ∧ (↑i : Int) < (↑l.length : Int)))
    (bndB (callP PP X FF k 28 [HV.int IntKind.i64 (l.getD i default), HV.int IntKind.i64 (0), HV.int IntKind.i64 p.lasting]) fun b =>
      br (!b) (some (Ex.ret, [g 0, encL 1 I64 l, HV.ptr (ePr p) 0, g 3, HV.bool false, HV.int IntKind.i64 (↑i : Int), HV.int IntKind.i64 (l.getD i default), encL 1 I64 l, HV.int IntKind.i64 (↑l.length : Int), HV.int IntKind.i64 (↑i : Int), HV.bool (decide ((↑i : Int) < (↑l.length : Int))), HV.int IntKind.i64 (↑i : Int), HV.ptr [HV.int IntKind.i64 (l.getD i default)] 0, HV.int IntKind.i64 (l.getD i default), HV.int IntKind.i64 (l.getD i default), HV.ptr (ePr p) 1, HV.int IntKind.i64 p.lasting, HV.bool b, HV.bool !b, HV.bool true, HV.tup [], HV.tup [], HV.tup [], HV.tup [], HV.tup [], HV.tup [], HV.tup [], HV.tup [], HV.tup [], HV.tup [], HV.tup [], HV.bool true, g 32], []))
        (br (decide (0 < (↑i : Int))) (br (decide (0 ≤ IntKind.i64.wrap ((↑i : Int) - 1) ∧ IntKind.i64.wrap ((↑i : Int) - 1) < (↑l.length : Int))) (br (decide (l.getD i default ≤ l.getD (IntKind.i64.wrap ((↑i : Int) - 1)).toNat default)) (some (Ex.ret, [g 0, encL 1 I64 l, HV.ptr (ePr p) 0, g 3, HV.bool false, HV.int IntKind.i64 (↑i : Int), HV.int IntKind.i64 (l.getD i default), encL 1 I64 l, HV.int IntKind.i64 (↑l.length : Int), HV.int IntKind.i64 (↑i : Int), HV.bool (decide ((↑i : Int) < (↑l.length : Int))), HV.int IntKind.i64 (↑i : Int), HV.ptr [HV.int IntKind.i64 (l.getD i default)] 0, HV.int IntKind.i64 (l.getD i default), HV.int IntKind.i64 (l.getD i default), HV.ptr (ePr p) 1, HV.int IntKind.i64 p.lasting, HV.bool b, HV.bool !b, HV.bool false, HV.int IntKind.i64 (↑i : Int), HV.bool (decide (0 < (↑i : Int))), HV.bool true, encL 1 I64 l, HV.int IntKind.i64 (↑i : Int), HV.int IntKind.i64 (IntKind.i64.wrap ((↑i : Int) - 1)), HV.ptr [HV.int IntKind.i64 (l.getD (IntKind.i64.wrap ((↑i : Int) - 1)).toNat default)] 0, HV.int IntKind.i64 (l.getD (IntKind.i64.wrap ((↑i : Int) - 1)).toNat default), HV.int IntKind.i64 (l.getD i default), HV.bool (decide (l.getD i default ≤ l.getD (IntKind.i64.wrap ((↑i : Int) - 1)).toNat default)), HV.bool (decide (l.getD i default ≤ l.getD (IntKind.i64.wrap ((↑i : Int) - 1)).toNat default)), HV.bool (decide (l.getD i default ≤ l.getD (IntKind.i64.wrap ((↑i : Int) - 1)).toNat default)), g 32], [])) (some (Ex.normal, [g 0, encL 1 I64 l, HV.ptr (ePr p) 0, g 3, g 4, HV.int IntKind.i64 (↑i : Int), HV.int IntKind.i64 (l.getD i default), encL 1 I64 l, HV.int IntKind.i64 (↑l.length : Int), HV.int IntKind.i64 (IntKind.i64.wrap ((↑i : Int) + 1)), HV.bool (decide ((↑i : Int) < (↑l.length : Int))), HV.int IntKind.i64 (↑i : Int), HV.ptr [HV.int IntKind.i64 (l.getD i default)] 0, HV.int IntKind.i64 (l.getD i default), HV.int IntKind.i64 (l.getD i default), HV.ptr (ePr p) 1, HV.int IntKind.i64 p.lasting, HV.bool b, HV.bool !b, HV.bool false, HV.int IntKind.i64 (↑i : Int), HV.bool (decide (0 < (↑i : Int))), HV.bool true, encL 1 I64 l, HV.int IntKind.i64 (↑i : Int), HV.int IntKind.i64 (IntKind.i64.wrap ((↑i : Int) - 1)), HV.ptr [HV.int IntKind.i64 (l.getD (IntKind.i64.wrap ((↑i : Int) - 1)).toNat default)] 0, HV.int IntKind.i64 (l.getD (IntKind.i64.wrap ((↑i : Int) - 1)).toNat default), HV.int IntKind.i64 (l.getD i default), HV.bool (decide (l.getD i default ≤ l.getD (IntKind.i64.wrap ((↑i : Int) - 1)).toNat default)), HV.bool (decide (l.getD i default ≤ l.getD (IntKind.i64.wrap ((↑i : Int) - 1)).toNat default)), HV.bool (decide (l.getD i default ≤ l.getD (IntKind.i64.wrap ((↑i : Int) - 1)).toNat default)), HV.int IntKind.i64 (IntKind.i64.wrap ((↑i : Int) + 1))], []))) none)
          (some (Ex.normal, [g 0, encL 1 I64 l, HV.ptr (ePr p) 0, g 3, g 4, HV.int IntKind.i64 (↑i : Int), HV.int IntKind.i64 (l.getD i default), encL 1 I64 l, HV.int IntKind.i64 (↑l.length : Int), HV.int IntKind.i64 (IntKind.i64.wrap ((↑i : Int) + 1)), HV.bool (decide ((↑i : Int) < (↑l.length : Int))), HV.int IntKind.i64 (↑i : Int), HV.ptr [HV.int IntKind.i64 (l.getD i default)] 0, HV.int IntKind.i64 (l.getD i default), HV.int IntKind.i64 (l.getD i default), HV.ptr (ePr p) 1, HV.int IntKind.i64 p.lasting, HV.bool b, HV.bool !b, HV.bool false, HV.int IntKind.i64 (↑i : Int), HV.bool (decide (0 < (↑i : Int))), HV.bool false, HV.tup [], HV.tup [], HV.tup [], HV.tup [], HV.tup [], HV.tup [], HV.tup [], HV.bool false, HV.bool false, HV.int IntKind.i64 (IntKind.i64.wrap ((↑i : Int) + 1))], []))))
    none)
  (some (Ex.exit 0, [g 0, encL 1 I64 l, HV.ptr (ePr p) 0, g 3, g 4, g 5, g 6, encL 1 I64 l, HV.int IntKind.i64 (↑l.length : Int), HV.int IntKind.i64 (↑i : Int), HV.bool (decide ((↑i : Int) < (↑l.length : Int))), g 11, g 12, g 13, g 14, g 15, g 16, g 17, g 18, g 19, g 20, g 21, g 22, g 23, g 24, g 25, g 26, g 27, g 28, g 29, g 30, g 31, g 32], [])) := by kernel_rfl
theorem f29 (hX : Xok X) {k : Nat} (hk : BB + 2 ≤ k) (p : Pr) (l : List Int) (hl : Len l) : callP PP X FF k 29 [.agg (ePr p), encL 1 I64 l] = some (.bool (risB l p.lasting)) := by
  unfold Len at hl
  obtain ⟨k, rfl, hk⟩ := fuel_pos hk
  rw [call_eq hX rfl _ Go.Proofs.Try.func29]
  refine Giv.eq ?_
  refine Giv.O (scan l.length (riseT l p.lasting) (fun i e => Mt [none, some (encL 1 I64 l), some (.ptr (ePr p) 0), none, none, none, none, some (encL 1 I64 l), some (.int .i64 l.length), some (.int .i64 i), none, none, none, none, none, none, none, none, none, none, none, none, none, none, none, none, none, none, none, none, none, none, none] e) (QT := fun i r => r.1 = .ret ∧ Mt [none, none, none, none, some (.bool false), none, none, none, none, none, none, none, none, none, none, none, none, none, none, none, none, none, none, none, none, none, none, none, none, none, none, none, none] r.2.1) (QE := fun r => r.1 = .exit 0 ∧ Mt [none, none, none, none, none, none, none, none, none, none, none, none, none, none, none, none, none, none, none, none, none, none, none, none, none, none, none, none, none, none, none, none, none] r.2.1) (by repeat' (first | exact trivial | exact rfl | (refine ⟨?_, ?_⟩))) (by unfold BB at hk; omega) ?_ ?_ ?_) ?_
  · intro i e hi hT hI
    obtain ⟨g, rfl⟩ := hI.elim 0
    refine Giv.of_eq (r29 X k p l i g) ?_
    (repeat (apply Giv.c; focus (first | assumption | exact (rfl : _ = true) | exact (rfl : _ = false) | exact decide_eq_true (by first | assumption | omega) | exact decide_eq_false (by first | assumption | omega))))
    refine Giv.B (f28 (k := k) hX (by omega) _ _ _) ?_
    simp only [riseT, Bool.or_eq_false_iff, Bool.and_eq_false_iff] at hT
    refine Giv.ff hT.1 ?_
    refine Giv.p (c := 0 < (i : Int)) (fun h2 => ?_) (fun h2 => ?_)
    · rw [wrap64 (x := (i : Int) - 1) (by omega) (by omega), show ((i : Int) - 1).toNat = i - 1 by omega]
      refine Giv.t (c := 0 ≤ (i : Int) - 1 ∧ (i : Int) - 1 < l.length) (by omega) ?_
      have h3 : decide (l.getD i default ≤ l.getD (i - 1) default) = false := hT.2.resolve_left (by simp; omega)
      refine Giv.ff h3 ?_
      exact Giv.ok ⟨rfl, (by repeat' (first | exact trivial | exact rfl | exact congrArg _ (wrap64 (by omega) (by omega)) | (refine ⟨?_, ?_⟩))), rfl⟩
    · exact Giv.ok ⟨rfl, (by repeat' (first | exact trivial | exact rfl | exact congrArg _ (wrap64 (by omega) (by omega)) | (refine ⟨?_, ?_⟩))), rfl⟩
  · intro i e hi hT hI
    obtain ⟨g, rfl⟩ := hI.elim 0
    refine Giv.of_eq (r29 X k p l i g) ?_
    (repeat (apply Giv.c; focus (first | assumption | exact (rfl : _ = true) | exact (rfl : _ = false) | exact decide_eq_true (by first | assumption | omega) | exact decide_eq_false (by first | assumption | omega))))
    refine Giv.B (f28 (k := k) hX (by omega) _ _ _) ?_
    simp only [riseT, Bool.or_eq_true, Bool.and_eq_true] at hT
    refine Giv.b (fun h => ?_) (fun h => ?_)
    · exact Giv.ok ⟨(by intro h; cases h), rfl, (by repeat' (first | exact trivial | exact rfl | (refine ⟨?_, ?_⟩)))⟩
    · have hT2 := hT.resolve_left (by intro h4; exact absurd (h.symm.trans h4) (by decide))
      have h2 : 0 < i := of_decide_eq_true hT2.1
      refine Giv.t (c := 0 < (i : Int)) (by omega) ?_
      rw [wrap64 (x := (i : Int) - 1) (by omega) (by omega), show ((i : Int) - 1).toNat = i - 1 by omega]
      refine Giv.t (c := 0 ≤ (i : Int) - 1 ∧ (i : Int) - 1 < l.length) (by omega) ?_
      refine Giv.tt hT2.2 ?_
      exact Giv.ok ⟨(by intro h; cases h), rfl, (by repeat' (first | exact trivial | exact rfl | (refine ⟨?_, ?_⟩)))⟩
  · intro e hI
    obtain ⟨g, rfl⟩ := hI.elim 0
    refine Giv.of_eq (r29 X k p l l.length g) ?_
    (repeat (apply Giv.c; focus (first | assumption | exact (rfl : _ = true) | exact (rfl : _ = false) | exact decide_eq_true (by first | assumption | omega) | exact decide_eq_false (by first | assumption | omega))))
    exact Giv.ok ⟨(by intro h; cases h), rfl, (by repeat' (first | exact trivial | exact rfl | (refine ⟨?_, ?_⟩)))⟩
  · intro x e st h
    rcases h with ⟨i, hi, hT, hf, hx, hM⟩ | ⟨hf, hx, hM⟩
    · obtain ⟨g, rfl⟩ := hM.elim 0
      have hx : x = .ret := hx
      subst hx
      exact Giv.ok (by unfold risB; rw [rng_not hi hT]; rfl)
    · obtain ⟨g, rfl⟩ := hM.elim 0
      have hx : x = .exit 0 := hx
      subst hx
      exact Giv.ok (by unfold risB; rw [rng_of hf]; rfl)
end
end Go.Rul
end

section
namespace Go.Rul
open Go.Eng
set_option maxRecDepth 100000
set_option linter.unusedVariables false

def userB (p : Pr) (u : User) : Bool := inB u.then_ p.lasting p.flags && u.while_.all fun x => inB x.flag 0 p.lasting

def ruleT (p : Pr) (i : Nat) : Bool := !ruleB p (p.rules.getD i default) || (decide (0 < i) && decide ((p.rules.getD i default).stratum < (p.rules.getD (i - 1) default).stratum))
def rulesB (p : Pr) : Bool := ((List.range p.rules.length).all fun i => !ruleT p i) && decide (p.rules.length ≤ 1500)

section
variable {X : Ext}

theorem r33 (X : Ext) (k : Nat) (p : Pr) (i : Nat) (g : Nat → HV) :
    (evC ⟨PP, callP PP X FF k⟩ k (subC (fnCode PP 33) [1, 0, 1, 0, 0]) Out (fillP [none, some (.ptr (ePr p) 0), none, none, none, none, none, some (encL 4 eUser p.users), some (.int .i64 p.users.length), some (.int .i64 i), none, none, none, none, none, none, none, none, none, none, none, none, none, none, none, none] 0 g) [] fun x e st => some (x, e, st)) =
    br (decide ((↑i : Int) < (↑p.users.length : Int)))
  (br (decide (0 ≤ (↑i : Int) ∧ (↑i : Int) < (↑p.users.length : Int)))
    (bndB (callP PP X FF k 70 [HV.agg [HV.int IntKind.i64 p.flags, HV.int IntKind.i64 p.lasting, encL 1 I64 p.first, encL 1 I64 p.over, HV.int IntKind.i64 p.from_, encL 1 eStr p.files, encL 4 eRule p.rules, encL 3 eCounter p.counters, encL 4 eUser p.users, encL 7 eItem p.notes], HV.int IntKind.i64 (p.users.getD i default).then_]) fun b =>
      br (!b) (some (Ex.ret, [g 0, HV.ptr (ePr p) 0, HV.bool false, g 3, HV.var 0 0, HV.fn 71 [HV.ptr (ePr p) 0], g 6, encL 4 eUser p.users, HV.int IntKind.i64 (↑p.users.length : Int), HV.int IntKind.i64 (↑i : Int), HV.bool (decide ((↑i : Int) < (↑p.users.length : Int))), HV.ptr [HV.str (p.users.getD i default).item, HV.int IntKind.i64 (p.users.getD i default).event, encL 2 eLit (p.users.getD i default).while_, HV.int IntKind.i64 (p.users.getD i default).then_] 0, HV.agg [HV.str (p.users.getD i default).item, HV.int IntKind.i64 (p.users.getD i default).event, encL 2 eLit (p.users.getD i default).while_, HV.int IntKind.i64 (p.users.getD i default).then_], HV.fn 71 [HV.ptr (ePr p) 0], HV.agg [HV.int IntKind.i64 p.flags, HV.int IntKind.i64 p.lasting, encL 1 I64 p.first, encL 1 I64 p.over, HV.int IntKind.i64 p.from_, encL 1 eStr p.files, encL 4 eRule p.rules, encL 3 eCounter p.counters, encL 4 eUser p.users, encL 7 eItem p.notes], HV.var 0 3, HV.int IntKind.i64 (p.users.getD i default).then_, HV.bool b, HV.bool !b, HV.bool true, HV.tup [], HV.tup [], HV.tup [], HV.tup [], HV.bool true, g 25], [Slot.var true [HV.str (p.users.getD i default).item, HV.int IntKind.i64 (p.users.getD i default).event, encL 2 eLit (p.users.getD i default).while_, HV.int IntKind.i64 (p.users.getD i default).then_]]))
        (bndB (callP PP X FF k 37 [HV.lst 2 (p.users.getD i default).while_.length fun i_1 => eLit ((p.users.getD i default).while_.getD i_1 default), HV.fn 71 [HV.ptr (ePr p) 0]]) fun b_1 => br b_1 (some (Ex.ret, [g 0, HV.ptr (ePr p) 0, HV.bool false, g 3, HV.var 0 0, HV.fn 71 [HV.ptr (ePr p) 0], g 6, encL 4 eUser p.users, HV.int IntKind.i64 (↑p.users.length : Int), HV.int IntKind.i64 (↑i : Int), HV.bool (decide ((↑i : Int) < (↑p.users.length : Int))), HV.ptr [HV.str (p.users.getD i default).item, HV.int IntKind.i64 (p.users.getD i default).event, encL 2 eLit (p.users.getD i default).while_, HV.int IntKind.i64 (p.users.getD i default).then_] 0, HV.agg [HV.str (p.users.getD i default).item, HV.int IntKind.i64 (p.users.getD i default).event, encL 2 eLit (p.users.getD i default).while_, HV.int IntKind.i64 (p.users.getD i default).then_], HV.fn 71 [HV.ptr (ePr p) 0], HV.agg [HV.int IntKind.i64 p.flags, HV.int IntKind.i64 p.lasting, encL 1 I64 p.first, encL 1 I64 p.over, HV.int IntKind.i64 p.from_, encL 1 eStr p.files, encL 4 eRule p.rules, encL 3 eCounter p.counters, encL 4 eUser p.users, encL 7 eItem p.notes], HV.var 0 3, HV.int IntKind.i64 (p.users.getD i default).then_, HV.bool b, HV.bool !b, HV.bool false, HV.var 0 2, encL 2 eLit (p.users.getD i default).while_, HV.fn 71 [HV.ptr (ePr p) 0], HV.bool b_1, HV.bool b_1, g 25], [Slot.var true [HV.str (p.users.getD i default).item, HV.int IntKind.i64 (p.users.getD i default).event, encL 2 eLit (p.users.getD i default).while_, HV.int IntKind.i64 (p.users.getD i default).then_]])) (some (Ex.normal, [g 0, HV.ptr (ePr p) 0, g 2, g 3, HV.var 0 0, HV.fn 71 [HV.ptr (ePr p) 0], g 6, encL 4 eUser p.users, HV.int IntKind.i64 (↑p.users.length : Int), HV.int IntKind.i64 (IntKind.i64.wrap ((↑i : Int) + 1)), HV.bool (decide ((↑i : Int) < (↑p.users.length : Int))), HV.ptr [HV.str (p.users.getD i default).item, HV.int IntKind.i64 (p.users.getD i default).event, encL 2 eLit (p.users.getD i default).while_, HV.int IntKind.i64 (p.users.getD i default).then_] 0, HV.agg [HV.str (p.users.getD i default).item, HV.int IntKind.i64 (p.users.getD i default).event, encL 2 eLit (p.users.getD i default).while_, HV.int IntKind.i64 (p.users.getD i default).then_], HV.fn 71 [HV.ptr (ePr p) 0], HV.agg [HV.int IntKind.i64 p.flags, HV.int IntKind.i64 p.lasting, encL 1 I64 p.first, encL 1 I64 p.over, HV.int IntKind.i64 p.from_, encL 1 eStr p.files, encL 4 eRule p.rules, encL 3 eCounter p.counters, encL 4 eUser p.users, encL 7 eItem p.notes], HV.var 0 3, HV.int IntKind.i64 (p.users.getD i default).then_, HV.bool b, HV.bool !b, HV.bool false, HV.var 0 2, encL 2 eLit (p.users.getD i default).while_, HV.fn 71 [HV.ptr (ePr p) 0], HV.bool b_1, HV.bool b_1, HV.int IntKind.i64 (IntKind.i64.wrap ((↑i : Int) + 1))], [Slot.var true [HV.str (p.users.getD i default).item, HV.int IntKind.i64 (p.users.getD i default).event, encL 2 eLit (p.users.getD i default).while_, HV.int IntKind.i64 (p.users.getD i default).then_]]))))
    none)
  (some (Ex.exit 0, [g 0, HV.ptr (ePr p) 0, g 2, g 3, g 4, g 5, g 6, encL 4 eUser p.users, HV.int IntKind.i64 (↑p.users.length : Int), HV.int IntKind.i64 (↑i : Int), HV.bool (decide ((↑i : Int) < (↑p.users.length : Int))), g 11, g 12, g 13, g 14, g 15, g 16, g 17, g 18, g 19, g 20, g 21, g 22, g 23, g 24, g 25], [])) := by kernel_rfl
theorem f33 (hX : Xok X) {k : Nat} (hk : BB + 6 ≤ k) (p : Pr) (hp : OkPr p) : callP PP X FF k 33 [.agg (ePr p)] = some (.bool (p.users.all (userB p))) := by
  have hl := hp.users
  unfold Len at hl
  have hu : ∀ i, i < p.users.length → Len (p.users.getD i default).while_ := fun i hi => by
    rw [List.getD_eq_getElem?_getD, List.getElem?_eq_getElem hi]; exact hp.user _ (List.getElem_mem hi)
  obtain ⟨k, rfl, hk⟩ := fuel_pos hk
  rw [call_eq hX rfl _ Go.Proofs.Try.func33]
  refine Giv.eq ?_
  refine Giv.O (scan p.users.length (fun i => !userB p (p.users.getD i default)) (fun i e => Mt [none, some (.ptr (ePr p) 0), none, none, none, none, none, some (encL 4 eUser p.users), some (.int .i64 p.users.length), some (.int .i64 i), none, none, none, none, none, none, none, none, none, none, none, none, none, none, none, none] e) (QT := fun i r => r.1 = .ret ∧ Mt [none, none, some (.bool false), none, none, none, none, none, none, none, none, none, none, none, none, none, none, none, none, none, none, none, none, none, none, none] r.2.1) (QE := fun r => r.1 = .exit 0 ∧ Mt [none, none, none, none, none, none, none, none, none, none, none, none, none, none, none, none, none, none, none, none, none, none, none, none, none, none] r.2.1) (by repeat' (first | exact trivial | exact rfl | (refine ⟨?_, ?_⟩))) (by unfold BB at hk; omega) ?_ ?_ ?_) ?_
  · intro i e hi hT hI
    obtain ⟨g, rfl⟩ := hI.elim 0
    refine Giv.of_eq (r33 X k p i g) ?_
    (repeat (apply Giv.c; focus (first | assumption | exact (rfl : _ = true) | exact (rfl : _ = false) | exact decide_eq_true (by first | assumption | omega) | exact decide_eq_false (by first | assumption | omega))))
    refine Giv.B (f70 (k := k) hX (by omega) p _) ?_
    simp only [userB, Bool.not_eq_false', Bool.and_eq_true] at hT
    refine Giv.ff (by rw [hT.1]; rfl) ?_
    refine Giv.B (f37 (k := k) hX (by omega) _ (hu i hi) (fun x => !inB x.flag 0 p.lasting) (h := 71) (caps := [.ptr (ePr p) 0]) rfl (fun x _ j hj => f71 hX (by omega) x p)) ?_
    have h3 := any_not_all (p.users.getD i default).while_ (fun x => inB x.flag 0 p.lasting)
    rw [hT.2] at h3
    refine Giv.ff (by simpa using h3) ?_
    exact Giv.ok ⟨rfl, (by repeat' (first | exact trivial | exact rfl | exact congrArg _ (wrap64 (by omega) (by omega)) | (refine ⟨?_, ?_⟩))), rfl⟩
  · intro i e hi hT hI
    obtain ⟨g, rfl⟩ := hI.elim 0
    refine Giv.of_eq (r33 X k p i g) ?_
    (repeat (apply Giv.c; focus (first | assumption | exact (rfl : _ = true) | exact (rfl : _ = false) | exact decide_eq_true (by first | assumption | omega) | exact decide_eq_false (by first | assumption | omega))))
    refine Giv.B (f70 (k := k) hX (by omega) p _) ?_
    refine Giv.b (fun h => ?_) (fun h => ?_)
    · exact Giv.ok ⟨(by intro h; cases h), rfl, (by repeat' (first | exact trivial | exact rfl | (refine ⟨?_, ?_⟩)))⟩
    · refine Giv.B (f37 (k := k) hX (by omega) _ (hu i hi) (fun x => !inB x.flag 0 p.lasting) (h := 71) (caps := [.ptr (ePr p) 0]) rfl (fun x _ j hj => f71 hX (by omega) x p)) ?_
      have h3 := any_not_all (p.users.getD i default).while_ (fun x => inB x.flag 0 p.lasting)
      simp only [Bool.not_eq_false'] at h
      simp only [userB, Bool.not_eq_true', Bool.and_eq_false_iff] at hT
      have h4 := hT.resolve_left (by intro h5; exact absurd (h.symm.trans h5) (by decide))
      rw [h4] at h3
      refine Giv.tt (by simpa using h3) ?_
      exact Giv.ok ⟨(by intro h; cases h), rfl, (by repeat' (first | exact trivial | exact rfl | (refine ⟨?_, ?_⟩)))⟩
  · intro e hI
    obtain ⟨g, rfl⟩ := hI.elim 0
    refine Giv.of_eq (r33 X k p p.users.length g) ?_
    (repeat (apply Giv.c; focus (first | assumption | exact (rfl : _ = true) | exact (rfl : _ = false) | exact decide_eq_true (by first | assumption | omega) | exact decide_eq_false (by first | assumption | omega))))
    exact Giv.ok ⟨(by intro h; cases h), rfl, (by repeat' (first | exact trivial | exact rfl | (refine ⟨?_, ?_⟩)))⟩
  · intro x e st h
    rcases h with ⟨i, hi, hT, hf, hx, hM⟩ | ⟨hf, hx, hM⟩
    · obtain ⟨g, rfl⟩ := hM.elim 0
      have hx : x = .ret := hx
      subst hx
      exact Giv.ok (by rw [all_not hi (by simpa using hT)]; rfl)
    · obtain ⟨g, rfl⟩ := hM.elim 0
      have hx : x = .exit 0 := hx
      subst hx
      exact Giv.ok (by rw [all_of (fun j hj => by simpa using hf j hj)]; rfl)
theorem r31 (X : Ext) (k : Nat) (p : Pr) (i : Nat) (g : Nat → HV) :
    (evC ⟨PP, callP PP X FF k⟩ k (subC (fnCode PP 31) [1, 0, 1, 0, 0]) Out (fillP [none, some (.ptr (ePr p) 0), none, none, none, none, some (encL 4 eRule p.rules), some (.int .i64 p.rules.length), some (.int .i64 i), none, none, none, none, none, none, none, none, none, none, none, none, none, none, none, none, none, none, none, none, none, none, none, none, none, none, none, none, none] 0 g) [] fun x e st => some (x, e, st)) =
    br (decide ((↑i : Int) < (↑p.rules.length : Int)))
  (br (decide (0 ≤ (↑i : Int) ∧ (↑i : Int) < (↑p.rules.length : Int)))
    (bndB (callP PP X FF k 67 [HV.agg [HV.int IntKind.i64 p.flags, HV.int IntKind.i64 p.lasting, encL 1 I64 p.first, encL 1 I64 p.over, HV.int IntKind.i64 p.from_, encL 1 eStr p.files, encL 4 eRule p.rules, encL 3 eCounter p.counters, encL 4 eUser p.users, encL 7 eItem p.notes], HV.agg [HV.int IntKind.i64 (p.rules.getD i default).stratum, encL 2 eLit (p.rules.getD i default).ifs, encL 3 eCond (p.rules.getD i default).conds, encL 2 eSet (p.rules.getD i default).thens]]) fun b =>
      br (!b) (some (Ex.ret, [g 0, HV.ptr (ePr p) 0, HV.bool false, HV.int IntKind.i64 (↑i : Int), HV.var 0 0, g 5, encL 4 eRule p.rules, HV.int IntKind.i64 (↑p.rules.length : Int), HV.int IntKind.i64 (↑i : Int), HV.bool (decide ((↑i : Int) < (↑p.rules.length : Int))), HV.int IntKind.i64 (↑i : Int), HV.ptr [HV.int IntKind.i64 (p.rules.getD i default).stratum, encL 2 eLit (p.rules.getD i default).ifs, encL 3 eCond (p.rules.getD i default).conds, encL 2 eSet (p.rules.getD i default).thens] 0, HV.agg [HV.int IntKind.i64 (p.rules.getD i default).stratum, encL 2 eLit (p.rules.getD i default).ifs, encL 3 eCond (p.rules.getD i default).conds, encL 2 eSet (p.rules.getD i default).thens], HV.agg [HV.int IntKind.i64 p.flags, HV.int IntKind.i64 p.lasting, encL 1 I64 p.first, encL 1 I64 p.over, HV.int IntKind.i64 p.from_, encL 1 eStr p.files, encL 4 eRule p.rules, encL 3 eCounter p.counters, encL 4 eUser p.users, encL 7 eItem p.notes], HV.agg [HV.int IntKind.i64 (p.rules.getD i default).stratum, encL 2 eLit (p.rules.getD i default).ifs, encL 3 eCond (p.rules.getD i default).conds, encL 2 eSet (p.rules.getD i default).thens], HV.bool b, HV.bool !b, HV.bool true, HV.tup [], HV.tup [], HV.tup [], HV.tup [], HV.tup [], HV.tup [], HV.tup [], HV.tup [], HV.tup [], HV.tup [], HV.tup [], HV.tup [], HV.tup [], HV.tup [], HV.bool true, g 33, g 34, g 35, g 36, g 37], [Slot.var true [HV.int IntKind.i64 (p.rules.getD i default).stratum, encL 2 eLit (p.rules.getD i default).ifs, encL 3 eCond (p.rules.getD i default).conds, encL 2 eSet (p.rules.getD i default).thens]]))
        (br (decide (0 < (↑i : Int)))
          (br (decide (0 ≤ IntKind.i64.wrap ((↑i : Int) - 1) ∧ IntKind.i64.wrap ((↑i : Int) - 1) < (↑p.rules.length : Int)))
            (br (decide ((p.rules.getD i default).stratum < (p.rules.getD (IntKind.i64.wrap ((↑i : Int) - 1)).toNat default).stratum)) (some (Ex.ret, [g 0, HV.ptr (ePr p) 0, HV.bool false, HV.int IntKind.i64 (↑i : Int), HV.var 0 0, g 5, encL 4 eRule p.rules, HV.int IntKind.i64 (↑p.rules.length : Int), HV.int IntKind.i64 (↑i : Int), HV.bool (decide ((↑i : Int) < (↑p.rules.length : Int))), HV.int IntKind.i64 (↑i : Int), HV.ptr [HV.int IntKind.i64 (p.rules.getD i default).stratum, encL 2 eLit (p.rules.getD i default).ifs, encL 3 eCond (p.rules.getD i default).conds, encL 2 eSet (p.rules.getD i default).thens] 0, HV.agg [HV.int IntKind.i64 (p.rules.getD i default).stratum, encL 2 eLit (p.rules.getD i default).ifs, encL 3 eCond (p.rules.getD i default).conds, encL 2 eSet (p.rules.getD i default).thens], HV.agg [HV.int IntKind.i64 p.flags, HV.int IntKind.i64 p.lasting, encL 1 I64 p.first, encL 1 I64 p.over, HV.int IntKind.i64 p.from_, encL 1 eStr p.files, encL 4 eRule p.rules, encL 3 eCounter p.counters, encL 4 eUser p.users, encL 7 eItem p.notes], HV.agg [HV.int IntKind.i64 (p.rules.getD i default).stratum, encL 2 eLit (p.rules.getD i default).ifs, encL 3 eCond (p.rules.getD i default).conds, encL 2 eSet (p.rules.getD i default).thens], HV.bool b, HV.bool !b, HV.bool false, HV.int IntKind.i64 (↑i : Int), HV.bool (decide (0 < (↑i : Int))), HV.bool true, HV.ptr (ePr p) 6, encL 4 eRule p.rules, HV.int IntKind.i64 (↑i : Int), HV.int IntKind.i64 (IntKind.i64.wrap ((↑i : Int) - 1)), HV.ptr [HV.int IntKind.i64 (p.rules.getD (IntKind.i64.wrap ((↑i : Int) - 1)).toNat default).stratum, encL 2 eLit (p.rules.getD (IntKind.i64.wrap ((↑i : Int) - 1)).toNat default).ifs, encL 3 eCond (p.rules.getD (IntKind.i64.wrap ((↑i : Int) - 1)).toNat default).conds, encL 2 eSet (p.rules.getD (IntKind.i64.wrap ((↑i : Int) - 1)).toNat default).thens] 0, HV.ptr [HV.int IntKind.i64 (p.rules.getD (IntKind.i64.wrap ((↑i : Int) - 1)).toNat default).stratum, encL 2 eLit (p.rules.getD (IntKind.i64.wrap ((↑i : Int) - 1)).toNat default).ifs, encL 3 eCond (p.rules.getD (IntKind.i64.wrap ((↑i : Int) - 1)).toNat default).conds, encL 2 eSet (p.rules.getD (IntKind.i64.wrap ((↑i : Int) - 1)).toNat default).thens] 0, HV.int IntKind.i64 (p.rules.getD (IntKind.i64.wrap ((↑i : Int) - 1)).toNat default).stratum, HV.var 0 0, HV.int IntKind.i64 (p.rules.getD i default).stratum, HV.bool (decide ((p.rules.getD i default).stratum < (p.rules.getD (IntKind.i64.wrap ((↑i : Int) - 1)).toNat default).stratum)), HV.bool (decide ((p.rules.getD i default).stratum < (p.rules.getD (IntKind.i64.wrap ((↑i : Int) - 1)).toNat default).stratum)), HV.bool (decide ((p.rules.getD i default).stratum < (p.rules.getD (IntKind.i64.wrap ((↑i : Int) - 1)).toNat default).stratum)), g 33, g 34, g 35, g 36, g 37], [Slot.var true [HV.int IntKind.i64 (p.rules.getD i default).stratum, encL 2 eLit (p.rules.getD i default).ifs, encL 3 eCond (p.rules.getD i default).conds, encL 2 eSet (p.rules.getD i default).thens]]))
              (some (Ex.normal, [g 0, HV.ptr (ePr p) 0, g 2, HV.int IntKind.i64 (↑i : Int), HV.var 0 0, g 5, encL 4 eRule p.rules, HV.int IntKind.i64 (↑p.rules.length : Int), HV.int IntKind.i64 (IntKind.i64.wrap ((↑i : Int) + 1)), HV.bool (decide ((↑i : Int) < (↑p.rules.length : Int))), HV.int IntKind.i64 (↑i : Int), HV.ptr [HV.int IntKind.i64 (p.rules.getD i default).stratum, encL 2 eLit (p.rules.getD i default).ifs, encL 3 eCond (p.rules.getD i default).conds, encL 2 eSet (p.rules.getD i default).thens] 0, HV.agg [HV.int IntKind.i64 (p.rules.getD i default).stratum, encL 2 eLit (p.rules.getD i default).ifs, encL 3 eCond (p.rules.getD i default).conds, encL 2 eSet (p.rules.getD i default).thens], HV.agg [HV.int IntKind.i64 p.flags, HV.int IntKind.i64 p.lasting, encL 1 I64 p.first, encL 1 I64 p.over, HV.int IntKind.i64 p.from_, encL 1 eStr p.files, encL 4 eRule p.rules, encL 3 eCounter p.counters, encL 4 eUser p.users, encL 7 eItem p.notes], HV.agg [HV.int IntKind.i64 (p.rules.getD i default).stratum, encL 2 eLit (p.rules.getD i default).ifs, encL 3 eCond (p.rules.getD i default).conds, encL 2 eSet (p.rules.getD i default).thens], HV.bool b, HV.bool !b, HV.bool false, HV.int IntKind.i64 (↑i : Int), HV.bool (decide (0 < (↑i : Int))), HV.bool true, HV.ptr (ePr p) 6, encL 4 eRule p.rules, HV.int IntKind.i64 (↑i : Int), HV.int IntKind.i64 (IntKind.i64.wrap ((↑i : Int) - 1)), HV.ptr [HV.int IntKind.i64 (p.rules.getD (IntKind.i64.wrap ((↑i : Int) - 1)).toNat default).stratum, encL 2 eLit (p.rules.getD (IntKind.i64.wrap ((↑i : Int) - 1)).toNat default).ifs, encL 3 eCond (p.rules.getD (IntKind.i64.wrap ((↑i : Int) - 1)).toNat default).conds, encL 2 eSet (p.rules.getD (IntKind.i64.wrap ((↑i : Int) - 1)).toNat default).thens] 0, HV.ptr [HV.int IntKind.i64 (p.rules.getD (IntKind.i64.wrap ((↑i : Int) - 1)).toNat default).stratum, encL 2 eLit (p.rules.getD (IntKind.i64.wrap ((↑i : Int) - 1)).toNat default).ifs, encL 3 eCond (p.rules.getD (IntKind.i64.wrap ((↑i : Int) - 1)).toNat default).conds, encL 2 eSet (p.rules.getD (IntKind.i64.wrap ((↑i : Int) - 1)).toNat default).thens] 0, HV.int IntKind.i64 (p.rules.getD (IntKind.i64.wrap ((↑i : Int) - 1)).toNat default).stratum, HV.var 0 0, HV.int IntKind.i64 (p.rules.getD i default).stratum, HV.bool (decide ((p.rules.getD i default).stratum < (p.rules.getD (IntKind.i64.wrap ((↑i : Int) - 1)).toNat default).stratum)), HV.bool (decide ((p.rules.getD i default).stratum < (p.rules.getD (IntKind.i64.wrap ((↑i : Int) - 1)).toNat default).stratum)), HV.bool (decide ((p.rules.getD i default).stratum < (p.rules.getD (IntKind.i64.wrap ((↑i : Int) - 1)).toNat default).stratum)), HV.int IntKind.i64 (IntKind.i64.wrap ((↑i : Int) + 1)), g 34, g 35, g 36, g 37], [Slot.var true [HV.int IntKind.i64 (p.rules.getD i default).stratum, encL 2 eLit (p.rules.getD i default).ifs, encL 3 eCond (p.rules.getD i default).conds, encL 2 eSet (p.rules.getD i default).thens]])))
            none)
          (some (Ex.normal, [g 0, HV.ptr (ePr p) 0, g 2, HV.int IntKind.i64 (↑i : Int), HV.var 0 0, g 5, encL 4 eRule p.rules, HV.int IntKind.i64 (↑p.rules.length : Int), HV.int IntKind.i64 (IntKind.i64.wrap ((↑i : Int) + 1)), HV.bool (decide ((↑i : Int) < (↑p.rules.length : Int))), HV.int IntKind.i64 (↑i : Int), HV.ptr [HV.int IntKind.i64 (p.rules.getD i default).stratum, encL 2 eLit (p.rules.getD i default).ifs, encL 3 eCond (p.rules.getD i default).conds, encL 2 eSet (p.rules.getD i default).thens] 0, HV.agg [HV.int IntKind.i64 (p.rules.getD i default).stratum, encL 2 eLit (p.rules.getD i default).ifs, encL 3 eCond (p.rules.getD i default).conds, encL 2 eSet (p.rules.getD i default).thens], HV.agg [HV.int IntKind.i64 p.flags, HV.int IntKind.i64 p.lasting, encL 1 I64 p.first, encL 1 I64 p.over, HV.int IntKind.i64 p.from_, encL 1 eStr p.files, encL 4 eRule p.rules, encL 3 eCounter p.counters, encL 4 eUser p.users, encL 7 eItem p.notes], HV.agg [HV.int IntKind.i64 (p.rules.getD i default).stratum, encL 2 eLit (p.rules.getD i default).ifs, encL 3 eCond (p.rules.getD i default).conds, encL 2 eSet (p.rules.getD i default).thens], HV.bool b, HV.bool !b, HV.bool false, HV.int IntKind.i64 (↑i : Int), HV.bool (decide (0 < (↑i : Int))), HV.bool false, HV.tup [], HV.tup [], HV.tup [], HV.tup [], HV.tup [], HV.tup [], HV.tup [], HV.tup [], HV.tup [], HV.tup [], HV.bool false, HV.bool false, HV.int IntKind.i64 (IntKind.i64.wrap ((↑i : Int) + 1)), g 34, g 35, g 36, g 37], [Slot.var true [HV.int IntKind.i64 (p.rules.getD i default).stratum, encL 2 eLit (p.rules.getD i default).ifs, encL 3 eCond (p.rules.getD i default).conds, encL 2 eSet (p.rules.getD i default).thens]]))))
    none)
  (some (Ex.exit 0, [g 0, HV.ptr (ePr p) 0, g 2, g 3, g 4, g 5, encL 4 eRule p.rules, HV.int IntKind.i64 (↑p.rules.length : Int), HV.int IntKind.i64 (↑i : Int), HV.bool (decide ((↑i : Int) < (↑p.rules.length : Int))), g 10, g 11, g 12, g 13, g 14, g 15, g 16, g 17, g 18, g 19, g 20, g 21, g 22, g 23, g 24, g 25, g 26, g 27, g 28, g 29, g 30, g 31, g 32, g 33, g 34, g 35, g 36, g 37], [])) := by kernel_rfl
theorem f31 (hX : Xok X) {k : Nat} (hk : BB + 10 ≤ k) (p : Pr) (hp : OkPr p) : callP PP X FF k 31 [.agg (ePr p)] = some (.bool (rulesB p)) := by
  have hl := hp.rules
  unfold Len at hl
  have hu : ∀ i, i < p.rules.length → OkRule (p.rules.getD i default) := fun i hi => by
    rw [List.getD_eq_getElem?_getD, List.getElem?_eq_getElem hi]; exact hp.rule _ (List.getElem_mem hi)
  obtain ⟨k, rfl, hk⟩ := fuel_pos hk
  rw [call_eq hX rfl _ Go.Proofs.Try.func31]
  refine Giv.eq ?_
  refine Giv.O (scan p.rules.length (ruleT p) (fun i e => Mt [none, some (.ptr (ePr p) 0), none, none, none, none, some (encL 4 eRule p.rules), some (.int .i64 p.rules.length), some (.int .i64 i), none, none, none, none, none, none, none, none, none, none, none, none, none, none, none, none, none, none, none, none, none, none, none, none, none, none, none, none, none] e) (QT := fun i r => r.1 = .ret ∧ Mt [none, none, some (.bool false), none, none, none, none, none, none, none, none, none, none, none, none, none, none, none, none, none, none, none, none, none, none, none, none, none, none, none, none, none, none, none, none, none, none, none] r.2.1) (QE := fun r => r.1 = .exit 0 ∧ Mt [none, some (.ptr (ePr p) 0), none, none, none, none, none, none, none, none, none, none, none, none, none, none, none, none, none, none, none, none, none, none, none, none, none, none, none, none, none, none, none, none, none, none, none, none] r.2.1) (by repeat' (first | exact trivial | exact rfl | (refine ⟨?_, ?_⟩))) (by unfold BB at hk; omega) ?_ ?_ ?_) ?_
  · intro i e hi hT hI
    obtain ⟨g, rfl⟩ := hI.elim 0
    refine Giv.of_eq (r31 X k p i g) ?_
    (repeat (apply Giv.c; focus (first | assumption | exact (rfl : _ = true) | exact (rfl : _ = false) | exact decide_eq_true (by first | assumption | omega) | exact decide_eq_false (by first | assumption | omega))))
    refine Giv.B (f67 (k := k) hX (by omega) p hp _ (hu i hi)) ?_
    simp only [ruleT, Bool.or_eq_false_iff, Bool.and_eq_false_iff] at hT
    refine Giv.ff hT.1 ?_
    refine Giv.p (c := 0 < (i : Int)) (fun h2 => ?_) (fun h2 => ?_)
    · rw [wrap64 (x := (i : Int) - 1) (by omega) (by omega), show ((i : Int) - 1).toNat = i - 1 by omega]
      refine Giv.t (c := 0 ≤ (i : Int) - 1 ∧ (i : Int) - 1 < p.rules.length) (by omega) ?_
      have h3 : decide ((p.rules.getD i default).stratum < (p.rules.getD (i - 1) default).stratum) = false := hT.2.resolve_left (by simp; omega)
      refine Giv.ff h3 ?_
      exact Giv.ok ⟨rfl, (by repeat' (first | exact trivial | exact rfl | exact congrArg _ (wrap64 (by omega) (by omega)) | (refine ⟨?_, ?_⟩))), rfl⟩
    · exact Giv.ok ⟨rfl, (by repeat' (first | exact trivial | exact rfl | exact congrArg _ (wrap64 (by omega) (by omega)) | (refine ⟨?_, ?_⟩))), rfl⟩
  · intro i e hi hT hI
    obtain ⟨g, rfl⟩ := hI.elim 0
    refine Giv.of_eq (r31 X k p i g) ?_
    (repeat (apply Giv.c; focus (first | assumption | exact (rfl : _ = true) | exact (rfl : _ = false) | exact decide_eq_true (by first | assumption | omega) | exact decide_eq_false (by first | assumption | omega))))
    refine Giv.B (f67 (k := k) hX (by omega) p hp _ (hu i hi)) ?_
    simp only [ruleT, Bool.or_eq_true, Bool.and_eq_true] at hT
    refine Giv.b (fun h => ?_) (fun h => ?_)
    · exact Giv.ok ⟨(by intro h; cases h), rfl, (by repeat' (first | exact trivial | exact rfl | (refine ⟨?_, ?_⟩)))⟩
    · have hT2 := hT.resolve_left (by intro h4; exact absurd (h.symm.trans h4) (by decide))
      have h2 : 0 < i := of_decide_eq_true hT2.1
      refine Giv.t (c := 0 < (i : Int)) (by omega) ?_
      rw [wrap64 (x := (i : Int) - 1) (by omega) (by omega), show ((i : Int) - 1).toNat = i - 1 by omega]
      refine Giv.t (c := 0 ≤ (i : Int) - 1 ∧ (i : Int) - 1 < p.rules.length) (by omega) ?_
      refine Giv.tt hT2.2 ?_
      exact Giv.ok ⟨(by intro h; cases h), rfl, (by repeat' (first | exact trivial | exact rfl | (refine ⟨?_, ?_⟩)))⟩
  · intro e hI
    obtain ⟨g, rfl⟩ := hI.elim 0
    refine Giv.of_eq (r31 X k p p.rules.length g) ?_
    (repeat (apply Giv.c; focus (first | assumption | exact (rfl : _ = true) | exact (rfl : _ = false) | exact decide_eq_true (by first | assumption | omega) | exact decide_eq_false (by first | assumption | omega))))
    exact Giv.ok ⟨(by intro h; cases h), rfl, (by repeat' (first | exact trivial | exact rfl | (refine ⟨?_, ?_⟩)))⟩
  · intro x e st h
    rcases h with ⟨i, hi, hT, hf, hx, hM⟩ | ⟨hf, hx, hM⟩
    · obtain ⟨g, rfl⟩ := hM.elim 0
      have hx : x = .ret := hx
      subst hx
      exact Giv.ok (by unfold rulesB; rw [rng_not hi hT]; rfl)
    · obtain ⟨g, rfl⟩ := hM.elim 0
      have hx : x = .exit 0 := hx
      subst hx
      exact Giv.ok (by unfold rulesB; rw [rng_of hf, Bool.true_and]; exact congrArg HV.bool (by rw [Bool.eq_iff_iff]; simp; omega))
end
end Go.Rul
end
