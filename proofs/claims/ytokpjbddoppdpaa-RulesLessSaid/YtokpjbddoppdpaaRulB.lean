/- Programs of rules: the document's answer. -/
import Derived.Test.YtokpjbddoppdpaaRulA
import Derived.Test.YtokpjbddoppdpaaStoD
import Derived.Test.YtokpjbddoppdpaaEngC
set_option linter.unusedVariables false
set_option linter.unusedSimpArgs false
set_option linter.unusedSectionVars false
section
namespace Go.Rul
open Go.Eng
set_option maxRecDepth 100000
set_option linter.unusedVariables false

section
variable {X : Ext}

theorem r23 (X : Ext) (k : Nat) (l : List Int) (n : Int) (i : Nat) (g : Nat → HV) :
    (evC ⟨PP, callP PP X FF k⟩ k (subC (fnCode PP 23) [1, 0, 1, 0, 0]) Out (fillP [some (encL 1 I64 l), some (.int .i64 n), none, none, none, some (.int .i64 i), none, none, none, none, none, none, none, none, none, none, none, none, none, none, none, none, none, none, none, none, none, none, none, none, none, none, none, none, none] 0 g) [] fun x e st => some (x, e, st)) =
    br (decide ((↑i : Int) < (↑l.length : Int)))
  (br (decide (0 ≤ (↑i : Int) ∧ (↑i : Int) < (↑l.length : Int)))
    (bndB (callP PP X FF k 63 [HV.int IntKind.i64 (l.getD i default), HV.int IntKind.i64 n]) fun b =>
      br (!b) (some (Ex.ret, [encL 1 I64 l, HV.int IntKind.i64 n, g 2, g 3, HV.bool false, HV.int IntKind.i64 (↑i : Int), HV.int IntKind.i64 (↑i : Int), encL 1 I64 l, HV.int IntKind.i64 (↑l.length : Int), HV.bool (decide ((↑i : Int) < (↑l.length : Int))), g 10, g 11, encL 1 I64 l, HV.int IntKind.i64 (↑i : Int), HV.ptr [HV.int IntKind.i64 (l.getD i default)] 0, HV.int IntKind.i64 (l.getD i default), HV.int IntKind.i64 n, HV.bool b, HV.bool !b, HV.bool true, HV.tup [], HV.tup [], HV.tup [], HV.tup [], HV.tup [], HV.tup [], HV.tup [], HV.tup [], HV.tup [], HV.tup [], HV.tup [], HV.tup [], HV.tup [], HV.tup [], HV.bool true], []))
        (br (decide (0 < (↑i : Int))) (br (decide (0 ≤ IntKind.i64.wrap ((↑i : Int) - 1) ∧ IntKind.i64.wrap ((↑i : Int) - 1) < (↑l.length : Int))) (br (decide (0 ≤ (↑i : Int) ∧ (↑i : Int) < (↑l.length : Int))) (br (decide (l.getD i default ≤ l.getD (IntKind.i64.wrap ((↑i : Int) - 1)).toNat default)) (some (Ex.ret, [encL 1 I64 l, HV.int IntKind.i64 n, g 2, g 3, HV.bool false, HV.int IntKind.i64 (↑i : Int), HV.int IntKind.i64 (↑i : Int), encL 1 I64 l, HV.int IntKind.i64 (↑l.length : Int), HV.bool (decide ((↑i : Int) < (↑l.length : Int))), g 10, g 11, encL 1 I64 l, HV.int IntKind.i64 (↑i : Int), HV.ptr [HV.int IntKind.i64 (l.getD i default)] 0, HV.int IntKind.i64 (l.getD i default), HV.int IntKind.i64 n, HV.bool b, HV.bool !b, HV.bool false, HV.int IntKind.i64 (↑i : Int), HV.bool (decide (0 < (↑i : Int))), HV.bool true, encL 1 I64 l, HV.int IntKind.i64 (↑i : Int), HV.int IntKind.i64 (IntKind.i64.wrap ((↑i : Int) - 1)), HV.ptr [HV.int IntKind.i64 (l.getD (IntKind.i64.wrap ((↑i : Int) - 1)).toNat default)] 0, HV.int IntKind.i64 (l.getD (IntKind.i64.wrap ((↑i : Int) - 1)).toNat default), encL 1 I64 l, HV.int IntKind.i64 (↑i : Int), HV.ptr [HV.int IntKind.i64 (l.getD i default)] 0, HV.int IntKind.i64 (l.getD i default), HV.bool (decide (l.getD i default ≤ l.getD (IntKind.i64.wrap ((↑i : Int) - 1)).toNat default)), HV.bool (decide (l.getD i default ≤ l.getD (IntKind.i64.wrap ((↑i : Int) - 1)).toNat default)), HV.bool (decide (l.getD i default ≤ l.getD (IntKind.i64.wrap ((↑i : Int) - 1)).toNat default))], [])) (some (Ex.normal, [encL 1 I64 l, HV.int IntKind.i64 n, g 2, g 3, g 4, HV.int IntKind.i64 (IntKind.i64.wrap ((↑i : Int) + 1)), HV.int IntKind.i64 (↑i : Int), encL 1 I64 l, HV.int IntKind.i64 (↑l.length : Int), HV.bool (decide ((↑i : Int) < (↑l.length : Int))), HV.int IntKind.i64 (↑i : Int), HV.int IntKind.i64 (IntKind.i64.wrap ((↑i : Int) + 1)), encL 1 I64 l, HV.int IntKind.i64 (↑i : Int), HV.ptr [HV.int IntKind.i64 (l.getD i default)] 0, HV.int IntKind.i64 (l.getD i default), HV.int IntKind.i64 n, HV.bool b, HV.bool !b, HV.bool false, HV.int IntKind.i64 (↑i : Int), HV.bool (decide (0 < (↑i : Int))), HV.bool true, encL 1 I64 l, HV.int IntKind.i64 (↑i : Int), HV.int IntKind.i64 (IntKind.i64.wrap ((↑i : Int) - 1)), HV.ptr [HV.int IntKind.i64 (l.getD (IntKind.i64.wrap ((↑i : Int) - 1)).toNat default)] 0, HV.int IntKind.i64 (l.getD (IntKind.i64.wrap ((↑i : Int) - 1)).toNat default), encL 1 I64 l, HV.int IntKind.i64 (↑i : Int), HV.ptr [HV.int IntKind.i64 (l.getD i default)] 0, HV.int IntKind.i64 (l.getD i default), HV.bool (decide (l.getD i default ≤ l.getD (IntKind.i64.wrap ((↑i : Int) - 1)).toNat default)), HV.bool (decide (l.getD i default ≤ l.getD (IntKind.i64.wrap ((↑i : Int) - 1)).toNat default)), HV.bool (decide (l.getD i default ≤ l.getD (IntKind.i64.wrap ((↑i : Int) - 1)).toNat default))], []))) none) none)
          (some (Ex.normal, [encL 1 I64 l, HV.int IntKind.i64 n, g 2, g 3, g 4, HV.int IntKind.i64 (IntKind.i64.wrap ((↑i : Int) + 1)), HV.int IntKind.i64 (↑i : Int), encL 1 I64 l, HV.int IntKind.i64 (↑l.length : Int), HV.bool (decide ((↑i : Int) < (↑l.length : Int))), HV.int IntKind.i64 (↑i : Int), HV.int IntKind.i64 (IntKind.i64.wrap ((↑i : Int) + 1)), encL 1 I64 l, HV.int IntKind.i64 (↑i : Int), HV.ptr [HV.int IntKind.i64 (l.getD i default)] 0, HV.int IntKind.i64 (l.getD i default), HV.int IntKind.i64 n, HV.bool b, HV.bool !b, HV.bool false, HV.int IntKind.i64 (↑i : Int), HV.bool (decide (0 < (↑i : Int))), HV.bool false, HV.tup [], HV.tup [], HV.tup [], HV.tup [], HV.tup [], HV.tup [], HV.tup [], HV.tup [], HV.tup [], HV.tup [], HV.bool false, HV.bool false], []))))
    none)
  (some (Ex.exit 0, [encL 1 I64 l, HV.int IntKind.i64 n, g 2, g 3, g 4, HV.int IntKind.i64 (↑i : Int), HV.int IntKind.i64 (↑i : Int), encL 1 I64 l, HV.int IntKind.i64 (↑l.length : Int), HV.bool (decide ((↑i : Int) < (↑l.length : Int))), g 10, g 11, g 12, g 13, g 14, g 15, g 16, g 17, g 18, g 19, g 20, g 21, g 22, g 23, g 24, g 25, g 26, g 27, g 28, g 29, g 30, g 31, g 32, g 33, g 34], [])) := by kernel_rfl
theorem f23 (hX : Xok X) {k : Nat} (hk : BB + 2 ≤ k) (l : List Int) (hl : Len l) (n : Int) : callP PP X FF k 23 [encL 1 I64 l, .int .i64 n] = some (.bool (risB l n)) := by
  unfold Len at hl
  obtain ⟨k, rfl, hk⟩ := fuel_pos hk
  rw [call_eq hX rfl _ Go.Proofs.Try.func23]
  refine Giv.eq ?_
  refine Giv.O (scan l.length (riseT l n) (fun i e => Mt [some (encL 1 I64 l), some (.int .i64 n), none, none, none, some (.int .i64 i), none, none, none, none, none, none, none, none, none, none, none, none, none, none, none, none, none, none, none, none, none, none, none, none, none, none, none, none, none] e) (QT := fun i r => r.1 = .ret ∧ Mt [none, none, none, none, some (.bool false), none, none, none, none, none, none, none, none, none, none, none, none, none, none, none, none, none, none, none, none, none, none, none, none, none, none, none, none, none, none] r.2.1) (QE := fun r => r.1 = .exit 0 ∧ Mt [none, none, none, none, none, none, none, none, none, none, none, none, none, none, none, none, none, none, none, none, none, none, none, none, none, none, none, none, none, none, none, none, none, none, none] r.2.1) (by repeat' (first | exact trivial | exact rfl | (refine ⟨?_, ?_⟩))) (by unfold BB at hk; omega) ?_ ?_ ?_) ?_
  · intro i e hi hT hI
    obtain ⟨g, rfl⟩ := hI.elim 0
    refine Giv.of_eq (r23 X k l n i g) ?_
    (repeat (apply Giv.c; focus (first | assumption | exact (rfl : _ = true) | exact (rfl : _ = false) | exact decide_eq_true (by first | assumption | omega) | exact decide_eq_false (by first | assumption | omega))))
    refine Giv.B (f63 (k := k) hX (by omega) _ _) ?_
    simp only [riseT, Bool.or_eq_false_iff, Bool.and_eq_false_iff] at hT
    refine Giv.ff hT.1 ?_
    refine Giv.p (c := 0 < (i : Int)) (fun h2 => ?_) (fun h2 => ?_)
    · rw [wrap64 (x := (i : Int) - 1) (by omega) (by omega), show ((i : Int) - 1).toNat = i - 1 by omega]
      refine Giv.t (c := 0 ≤ (i : Int) - 1 ∧ (i : Int) - 1 < l.length) (by omega) ?_
      refine Giv.t (c := 0 ≤ (i : Int) ∧ (i : Int) < l.length) (by omega) ?_
      have h3 : decide (l.getD i default ≤ l.getD (i - 1) default) = false := hT.2.resolve_left (by simp; omega)
      refine Giv.ff h3 ?_
      exact Giv.ok ⟨rfl, (by repeat' (first | exact trivial | exact rfl | exact congrArg _ (wrap64 (by omega) (by omega)) | (refine ⟨?_, ?_⟩))), rfl⟩
    · exact Giv.ok ⟨rfl, (by repeat' (first | exact trivial | exact rfl | exact congrArg _ (wrap64 (by omega) (by omega)) | (refine ⟨?_, ?_⟩))), rfl⟩
  · intro i e hi hT hI
    obtain ⟨g, rfl⟩ := hI.elim 0
    refine Giv.of_eq (r23 X k l n i g) ?_
    (repeat (apply Giv.c; focus (first | assumption | exact (rfl : _ = true) | exact (rfl : _ = false) | exact decide_eq_true (by first | assumption | omega) | exact decide_eq_false (by first | assumption | omega))))
    refine Giv.B (f63 (k := k) hX (by omega) _ _) ?_
    simp only [riseT, Bool.or_eq_true, Bool.and_eq_true] at hT
    refine Giv.b (fun h => ?_) (fun h => ?_)
    · exact Giv.ok ⟨(by intro h; cases h), rfl, (by repeat' (first | exact trivial | exact rfl | (refine ⟨?_, ?_⟩)))⟩
    · have hT2 := hT.resolve_left (by intro h4; exact absurd (h.symm.trans h4) (by decide))
      have h2 : 0 < i := of_decide_eq_true hT2.1
      refine Giv.t (c := 0 < (i : Int)) (by omega) ?_
      rw [wrap64 (x := (i : Int) - 1) (by omega) (by omega), show ((i : Int) - 1).toNat = i - 1 by omega]
      refine Giv.t (c := 0 ≤ (i : Int) - 1 ∧ (i : Int) - 1 < l.length) (by omega) ?_
      refine Giv.t (c := 0 ≤ (i : Int) ∧ (i : Int) < l.length) (by omega) ?_
      refine Giv.tt hT2.2 ?_
      exact Giv.ok ⟨(by intro h; cases h), rfl, (by repeat' (first | exact trivial | exact rfl | (refine ⟨?_, ?_⟩)))⟩
  · intro e hI
    obtain ⟨g, rfl⟩ := hI.elim 0
    refine Giv.of_eq (r23 X k l n l.length g) ?_
    (repeat (apply Giv.c; focus (first | assumption | exact (rfl : _ = true) | exact (rfl : _ = false) | exact decide_eq_true (by first | assumption | omega) | exact decide_eq_false (by first | assumption | omega))))
    exact Giv.ok ⟨(by intro h; cases h), rfl, (by repeat' (first | exact trivial | exact rfl | (refine ⟨?_, ?_⟩)))⟩
  · intro x e st h
    rcases h with ⟨i, hi, hT, hf, hx, hM⟩ | ⟨hf, hx, hM⟩
    · obtain ⟨g, rfl⟩ := hM.elim 0
      have hx : x = .ret := hx
      subst hx
      exact Giv.ok (by unfold risB; rw [rng_not hi hT]; rfl)
    · obtain ⟨g, rfl⟩ := hM.elim 0
      have hx : x = .exit 0 := hx
      subst hx
      exact Giv.ok (by unfold risB; rw [rng_of hf]; rfl)
theorem cut_encL {α : Type} [Inhabited α] (sz : Nat) (enc : α → List HV) (l : List α) (a h : Nat) (hh : h ≤ l.length) : HV.lst sz (h - a) (cutF (h - a) a (fun j => enc (l.getD j default)) (enc default)) = encL sz enc ((l.take h).drop a) := by
  unfold encL
  have e : ((l.take h).drop a).length = h - a := by simp; omega
  rw [e]
  congr 1
  funext j
  unfold cutF
  by_cases hj : j < h - a
  · simp only [hj, decide_true, cond_true]
    congr 1
    rw [List.getD_eq_getElem?_getD, List.getD_eq_getElem?_getD, List.getElem?_drop, List.getElem?_take, if_pos (by omega)]
  · simp only [hj, decide_false, cond_false]
    congr 1
    rw [List.getD_eq_getElem?_getD, List.getElem?_eq_none (by rw [e]; omega)]
    rfl
theorem r30 (X : Ext) (k : Nat) (p : Pr) (i : Nat) (g : Nat → HV) :
    (evC ⟨PP, callP PP X FF k⟩ k (subC (fnCode PP 30) [1, 0, 1, 0, 0]) Out (fillP [none, some (.ptr (ePr p) 0), none, none, none, none, some (encL 1 eStr p.files), some (.int .i64 p.files.length), some (.int .i64 i), none, none, none, none, none, none, none, none, none, none, none, none, none, none, none] 0 g) [] fun x e st => some (x, e, st)) =
    br (decide ((↑i : Int) < (↑p.files.length : Int))) (br (decide (0 ≤ (↑i : Int) ∧ (↑i : Int) < (↑p.files.length : Int))) (br (decide (0 ≤ (↑i : Int) ∧ (↑i : Int) ≤ (↑p.files.length : Int))) (bndB (callP PP X FF k 66 [HV.lst 1 (i - 0) (cutF (i - 0) 0 (fun i => eStr (p.files.getD i default)) [HV.str ByteArray.empty]), HV.str (p.files.getD i default)]) fun b => br b (some (Ex.ret, [g 0, HV.ptr (ePr p) 0, HV.bool false, HV.int IntKind.i64 (↑i : Int), HV.str (p.files.getD i default), g 5, encL 1 eStr p.files, HV.int IntKind.i64 (↑p.files.length : Int), HV.int IntKind.i64 (↑i : Int), HV.bool (decide ((↑i : Int) < (↑p.files.length : Int))), HV.int IntKind.i64 (↑i : Int), HV.ptr [HV.str (p.files.getD i default)] 0, HV.str (p.files.getD i default), HV.ptr (ePr p) 5, encL 1 eStr p.files, HV.int IntKind.i64 (↑i : Int), HV.lst 1 (i - 0) (cutF (i - 0) 0 (fun i => eStr (p.files.getD i default)) [HV.str ByteArray.empty]), HV.str (p.files.getD i default), HV.bool b, g 19, g 20, g 21, g 22, g 23], [])) (some (Ex.normal, [g 0, HV.ptr (ePr p) 0, g 2, HV.int IntKind.i64 (↑i : Int), HV.str (p.files.getD i default), g 5, encL 1 eStr p.files, HV.int IntKind.i64 (↑p.files.length : Int), HV.int IntKind.i64 (IntKind.i64.wrap ((↑i : Int) + 1)), HV.bool (decide ((↑i : Int) < (↑p.files.length : Int))), HV.int IntKind.i64 (↑i : Int), HV.ptr [HV.str (p.files.getD i default)] 0, HV.str (p.files.getD i default), HV.ptr (ePr p) 5, encL 1 eStr p.files, HV.int IntKind.i64 (↑i : Int), HV.lst 1 (i - 0) (cutF (i - 0) 0 (fun i => eStr (p.files.getD i default)) [HV.str ByteArray.empty]), HV.str (p.files.getD i default), HV.bool b, HV.int IntKind.i64 (IntKind.i64.wrap ((↑i : Int) + 1)), g 20, g 21, g 22, g 23], []))) none) none) (some (Ex.exit 0, [g 0, HV.ptr (ePr p) 0, g 2, g 3, g 4, g 5, encL 1 eStr p.files, HV.int IntKind.i64 (↑p.files.length : Int), HV.int IntKind.i64 (↑i : Int), HV.bool (decide ((↑i : Int) < (↑p.files.length : Int))), g 10, g 11, g 12, g 13, g 14, g 15, g 16, g 17, g 18, g 19, g 20, g 21, g 22, g 23], [])) := by kernel_rfl
theorem f66c (hX : Xok X) {k : Nat} (hk : BB + 2 ≤ k) (l : List ByteArray) (hl : Len l) (s : ByteArray) (i : Nat) (hi : i ≤ l.length) : callP PP X FF k 66 [HV.lst 1 (i - 0) (cutF (i - 0) 0 (fun i => eStr (l.getD i default)) [HV.str ByteArray.empty]), .str s] = some (.bool ((l.take i).any fun y => decide (y = s))) := by
  have e := cut_encL 1 eStr l 0 i hi
  rw [List.drop_zero] at e
  have hl2 : Len (l.take i) := by unfold Len at *; simp; omega
  exact (congrArg (fun z => callP PP X FF k 66 [z, .str s]) e).trans (f66 hX hk (l.take i) hl2 s)
def fileT (l : List ByteArray) (i : Nat) : Bool := (l.take i).any fun y => decide (y = l.getD i default)
def filesB (l : List ByteArray) : Bool := ((List.range l.length).all fun i => !fileT l i) && decide (l.length ≤ 6)
theorem f30 (hX : Xok X) {k : Nat} (hk : BB + 4 ≤ k) (p : Pr) (hp : OkPr p) : callP PP X FF k 30 [.agg (ePr p)] = some (.bool (filesB p.files)) := by
  have hl := hp.files
  unfold Len at hl
  obtain ⟨k, rfl, hk⟩ := fuel_pos hk
  rw [call_eq hX rfl _ Go.Proofs.Try.func30]
  refine Giv.eq ?_
  refine Giv.O (scan p.files.length (fileT p.files) (fun i e => Mt [none, some (.ptr (ePr p) 0), none, none, none, none, some (encL 1 eStr p.files), some (.int .i64 p.files.length), some (.int .i64 i), none, none, none, none, none, none, none, none, none, none, none, none, none, none, none] e) (QT := fun i r => r.1 = .ret ∧ Mt [none, none, some (.bool false), none, none, none, none, none, none, none, none, none, none, none, none, none, none, none, none, none, none, none, none, none] r.2.1) (QE := fun r => r.1 = .exit 0 ∧ Mt [none, some (.ptr (ePr p) 0), none, none, none, none, none, none, none, none, none, none, none, none, none, none, none, none, none, none, none, none, none, none] r.2.1) (by repeat' (first | exact trivial | exact rfl | (refine ⟨?_, ?_⟩))) (by unfold BB at hk; omega) ?_ ?_ ?_) ?_
  · intro i e hi hT hI
    obtain ⟨g, rfl⟩ := hI.elim 0
    refine Giv.of_eq (r30 X k p i g) ?_
    (repeat (apply Giv.c; focus (first | assumption | exact (rfl : _ = true) | exact (rfl : _ = false) | exact decide_eq_true (by first | assumption | omega) | exact decide_eq_false (by first | assumption | omega))))
    refine Giv.B (f66c (k := k) hX (by omega) p.files hp.files _ i (by omega)) ?_
    refine Giv.ff hT ?_
    exact Giv.ok ⟨rfl, (by repeat' (first | exact trivial | exact rfl | exact congrArg _ (wrap64 (by omega) (by omega)) | (refine ⟨?_, ?_⟩))), rfl⟩
  · intro i e hi hT hI
    obtain ⟨g, rfl⟩ := hI.elim 0
    refine Giv.of_eq (r30 X k p i g) ?_
    (repeat (apply Giv.c; focus (first | assumption | exact (rfl : _ = true) | exact (rfl : _ = false) | exact decide_eq_true (by first | assumption | omega) | exact decide_eq_false (by first | assumption | omega))))
    refine Giv.B (f66c (k := k) hX (by omega) p.files hp.files _ i (by omega)) ?_
    refine Giv.tt hT ?_
    exact Giv.ok ⟨(by intro h; cases h), rfl, (by repeat' (first | exact trivial | exact rfl | (refine ⟨?_, ?_⟩)))⟩
  · intro e hI
    obtain ⟨g, rfl⟩ := hI.elim 0
    refine Giv.of_eq (r30 X k p p.files.length g) ?_
    (repeat (apply Giv.c; focus (first | assumption | exact (rfl : _ = true) | exact (rfl : _ = false) | exact decide_eq_true (by first | assumption | omega) | exact decide_eq_false (by first | assumption | omega))))
    exact Giv.ok ⟨(by intro h; cases h), rfl, (by repeat' (first | exact trivial | exact rfl | (refine ⟨?_, ?_⟩)))⟩
  · intro x e st h
    rcases h with ⟨i, hi, hT, hf, hx, hM⟩ | ⟨hf, hx, hM⟩
    · obtain ⟨g, rfl⟩ := hM.elim 0
      have hx : x = .ret := hx
      subst hx
      exact Giv.ok (by unfold filesB; rw [rng_not hi hT]; rfl)
    · obtain ⟨g, rfl⟩ := hM.elim 0
      have hx : x = .exit 0 := hx
      subst hx
      exact Giv.ok (by unfold filesB; rw [rng_of hf, Bool.true_and]; exact congrArg HV.bool (by rw [Bool.eq_iff_iff]; simp; omega))
end
end Go.Rul
end

section
namespace Go.Rul
open Go.Eng
set_option maxRecDepth 100000
set_option linter.unusedVariables false

section
variable {X : Ext}

theorem c25 : Go.Proofs.Try.f25.body = some (fnCode PP 25) := by kernel_rfl
theorem c25a : fnCode PP 25 = .seq (subC (fnCode PP 25) [0]) (subC (fnCode PP 25) [1]) := by kernel_rfl
theorem c25b : subC (fnCode PP 25) [1] = .seq (subC (fnCode PP 25) [1, 0]) (subC (fnCode PP 25) [1, 1]) := by kernel_rfl
theorem s25a (X : Ext) (k : Nat) (p : Pr) (r : Rule) :
    (evC ⟨PP, callP PP X FF k⟩ k (subC (fnCode PP 25) [0]) Out ([.agg (ePr p), .agg (eRule r)] ++ List.replicate (Go.Proofs.Try.f25.ntmps - [HV.agg (ePr p), HV.agg (eRule r)].length) .undef) [] fun x e st => some (x, e, st)) =
    some (Ex.normal, (sl 0 73 [(0, HV.agg (ePr p)), (1, HV.agg (eRule r)), (2, HV.ptr [HV.int IntKind.i64 p.flags, HV.int IntKind.i64 p.lasting, encL 1 I64 p.first, encL 1 I64 p.over, HV.int IntKind.i64 p.from_, encL 1 eStr p.files, encL 4 eRule p.rules, encL 3 eCounter p.counters, encL 4 eUser p.users, encL 7 eItem p.notes] 0), (3, HV.ptr [HV.int IntKind.i64 r.stratum, encL 2 eLit r.ifs, encL 3 eCond r.conds, encL 2 eSet r.thens] 0), (4, HV.bool false)]), []) := by kernel_rfl
theorem s25b (X : Ext) (k : Nat) (p : Pr) (r : Rule) (g : Nat → HV) :
    (evC ⟨PP, callP PP X FF k⟩ k (subC (fnCode PP 25) [1, 0]) Out (fillP [none, none, some (.ptr (ePr p) 0), some (.ptr (eRule r) 0), none, none, none, none, none, none, none, none, none, none, none, none, none, none, none, none, none, none, none, none, none, none, none, none, none, none, none, none, none, none, none, none, none, none, none, none, none, none, none, none, none, none, none, none, none, none, none, none, none, none, none, none, none, none, none, none, none, none, none, none, none, none, none, none, none, none, none, none, none] 0 g) [] fun x e st => some (x, e, st)) =
    br (decide (r.stratum < 1)) (some (Ex.ret, [g 0, g 1, HV.ptr (ePr p) 0, HV.ptr (eRule r) 0, HV.bool false, g 5, g 6, HV.ptr (eRule r) 0, HV.int IntKind.i64 r.stratum, HV.bool (decide (r.stratum < 1)), HV.bool true, HV.tup [], HV.tup [], HV.tup [], HV.bool true, HV.bool true, HV.tup [], HV.tup [], HV.tup [], HV.tup [], HV.bool true, HV.bool true, HV.tup [], HV.tup [], HV.tup [], HV.tup [], HV.tup [], HV.tup [], HV.bool true, g 29, g 30, g 31, g 32, g 33, g 34, g 35, g 36, g 37, g 38, g 39, g 40, g 41, g 42, g 43, g 44, g 45, g 46, g 47, g 48, g 49, g 50, g 51, g 52, g 53, g 54, g 55, g 56, g 57, g 58, g 59, g 60, g 61, g 62, g 63, g 64, g 65, g 66, g 67, g 68, g 69, g 70, g 71, g 72], []))
  (br (decide (20 < r.stratum)) (some (Ex.ret, [g 0, g 1, HV.ptr (ePr p) 0, HV.ptr (eRule r) 0, HV.bool false, g 5, g 6, HV.ptr (eRule r) 0, HV.int IntKind.i64 r.stratum, HV.bool (decide (r.stratum < 1)), HV.bool false, HV.ptr (eRule r) 0, HV.int IntKind.i64 r.stratum, HV.bool (decide (20 < r.stratum)), HV.bool (decide (20 < r.stratum)), HV.bool true, HV.tup [], HV.tup [], HV.tup [], HV.tup [], HV.bool true, HV.bool true, HV.tup [], HV.tup [], HV.tup [], HV.tup [], HV.tup [], HV.tup [], HV.bool true, g 29, g 30, g 31, g 32, g 33, g 34, g 35, g 36, g 37, g 38, g 39, g 40, g 41, g 42, g 43, g 44, g 45, g 46, g 47, g 48, g 49, g 50, g 51, g 52, g 53, g 54, g 55, g 56, g 57, g 58, g 59, g 60, g 61, g 62, g 63, g 64, g 65, g 66, g 67, g 68, g 69, g 70, g 71, g 72], [])) (br (decide ((↑r.thens.length : Int) = 0)) (some (Ex.ret, [g 0, g 1, HV.ptr (ePr p) 0, HV.ptr (eRule r) 0, HV.bool false, g 5, g 6, HV.ptr (eRule r) 0, HV.int IntKind.i64 r.stratum, HV.bool (decide (r.stratum < 1)), HV.bool false, HV.ptr (eRule r) 0, HV.int IntKind.i64 r.stratum, HV.bool (decide (20 < r.stratum)), HV.bool (decide (20 < r.stratum)), HV.bool false, HV.ptr (eRule r) 3, encL 2 eSet r.thens, HV.int IntKind.i64 (↑r.thens.length : Int), HV.bool (decide ((↑r.thens.length : Int) = 0)), HV.bool (decide ((↑r.thens.length : Int) = 0)), HV.bool true, HV.tup [], HV.tup [], HV.tup [], HV.tup [], HV.tup [], HV.tup [], HV.bool true, g 29, g 30, g 31, g 32, g 33, g 34, g 35, g 36, g 37, g 38, g 39, g 40, g 41, g 42, g 43, g 44, g 45, g 46, g 47, g 48, g 49, g 50, g 51, g 52, g 53, g 54, g 55, g 56, g 57, g 58, g 59, g 60, g 61, g 62, g 63, g 64, g 65, g 66, g 67, g 68, g 69, g 70, g 71, g 72], [])) (bndB (callP PP X FF k 64 [HV.lst 2 r.ifs.length fun i => eLit (r.ifs.getD i default), HV.int IntKind.i64 p.flags]) fun b => br (!b) (some (Ex.ret, [g 0, g 1, HV.ptr (ePr p) 0, HV.ptr (eRule r) 0, HV.bool false, g 5, g 6, HV.ptr (eRule r) 0, HV.int IntKind.i64 r.stratum, HV.bool (decide (r.stratum < 1)), HV.bool false, HV.ptr (eRule r) 0, HV.int IntKind.i64 r.stratum, HV.bool (decide (20 < r.stratum)), HV.bool (decide (20 < r.stratum)), HV.bool false, HV.ptr (eRule r) 3, encL 2 eSet r.thens, HV.int IntKind.i64 (↑r.thens.length : Int), HV.bool (decide ((↑r.thens.length : Int) = 0)), HV.bool (decide ((↑r.thens.length : Int) = 0)), HV.bool false, HV.ptr (eRule r) 1, encL 2 eLit r.ifs, HV.ptr (ePr p) 0, HV.int IntKind.i64 p.flags, HV.bool b, HV.bool !b, HV.bool !b, g 29, g 30, g 31, g 32, g 33, g 34, g 35, g 36, g 37, g 38, g 39, g 40, g 41, g 42, g 43, g 44, g 45, g 46, g 47, g 48, g 49, g 50, g 51, g 52, g 53, g 54, g 55, g 56, g 57, g 58, g 59, g 60, g 61, g 62, g 63, g 64, g 65, g 66, g 67, g 68, g 69, g 70, g 71, g 72], [])) (some (Ex.normal, [g 0, g 1, HV.ptr (ePr p) 0, HV.ptr (eRule r) 0, g 4, g 5, g 6, HV.ptr (eRule r) 0, HV.int IntKind.i64 r.stratum, HV.bool (decide (r.stratum < 1)), HV.bool false, HV.ptr (eRule r) 0, HV.int IntKind.i64 r.stratum, HV.bool (decide (20 < r.stratum)), HV.bool (decide (20 < r.stratum)), HV.bool false, HV.ptr (eRule r) 3, encL 2 eSet r.thens, HV.int IntKind.i64 (↑r.thens.length : Int), HV.bool (decide ((↑r.thens.length : Int) = 0)), HV.bool (decide ((↑r.thens.length : Int) = 0)), HV.bool false, HV.ptr (eRule r) 1, encL 2 eLit r.ifs, HV.ptr (ePr p) 0, HV.int IntKind.i64 p.flags, HV.bool b, HV.bool !b, HV.bool !b, g 29, g 30, g 31, g 32, g 33, g 34, g 35, g 36, g 37, g 38, g 39, g 40, g 41, g 42, g 43, g 44, g 45, g 46, g 47, g 48, g 49, g 50, g 51, g 52, g 53, g 54, g 55, g 56, g 57, g 58, g 59, g 60, g 61, g 62, g 63, g 64, g 65, g 66, g 67, g 68, g 69, g 70, g 71, g 72], []))))) := by kernel_rfl
theorem r25a (X : Ext) (k : Nat) (p : Pr) (r : Rule) (i : Nat) (g : Nat → HV) :
    (evC ⟨PP, callP PP X FF k⟩ k (subC (fnCode PP 25) [1, 1, 0, 1, 0, 0]) Out (fillP [none, none, some (.ptr (ePr p) 0), some (.ptr (eRule r) 0), none, some (.int .i64 i), none, none, none, none, none, none, none, none, none, none, none, none, none, none, none, none, none, none, none, none, none, none, none, none, none, none, none, none, none, none, none, none, none, none, none, none, none, none, none, none, none, none, none, none, none, none, none, none, none, none, none, none, none, none, none, none, none, none, none, none, none, none, none, none, none, none, none] 0 g) [] fun x e st => some (x, e, st)) =
    br (decide ((↑i : Int) < (↑r.thens.length : Int))) (br (decide (0 ≤ (↑i : Int) ∧ (↑i : Int) < (↑r.thens.length : Int))) (bndB (callP PP X FF k 63 [HV.int IntKind.i64 (r.thens.getD i default).flag, HV.int IntKind.i64 p.flags]) fun b => br (!b) (some (Ex.ret, [g 0, g 1, HV.ptr (ePr p) 0, HV.ptr (eRule r) 0, HV.bool false, HV.int IntKind.i64 (↑i : Int), g 6, g 7, g 8, g 9, g 10, g 11, g 12, g 13, g 14, g 15, g 16, g 17, g 18, g 19, g 20, g 21, g 22, g 23, g 24, g 25, g 26, g 27, g 28, HV.int IntKind.i64 (↑i : Int), HV.ptr (eRule r) 3, encL 2 eSet r.thens, HV.int IntKind.i64 (↑r.thens.length : Int), HV.bool (decide ((↑i : Int) < (↑r.thens.length : Int))), g 34, g 35, HV.ptr (eRule r) 3, encL 2 eSet r.thens, HV.int IntKind.i64 (↑i : Int), HV.ptr [HV.int IntKind.i64 (r.thens.getD i default).flag, HV.bool (r.thens.getD i default).up] 0, HV.ptr [HV.int IntKind.i64 (r.thens.getD i default).flag, HV.bool (r.thens.getD i default).up] 0, HV.int IntKind.i64 (r.thens.getD i default).flag, HV.ptr (ePr p) 0, HV.int IntKind.i64 p.flags, HV.bool b, HV.bool !b, g 46, g 47, g 48, g 49, g 50, g 51, g 52, g 53, g 54, g 55, g 56, g 57, g 58, g 59, g 60, g 61, g 62, g 63, g 64, g 65, g 66, g 67, g 68, g 69, g 70, g 71, g 72], [])) (some (Ex.normal, [g 0, g 1, HV.ptr (ePr p) 0, HV.ptr (eRule r) 0, g 4, HV.int IntKind.i64 (IntKind.i64.wrap ((↑i : Int) + 1)), g 6, g 7, g 8, g 9, g 10, g 11, g 12, g 13, g 14, g 15, g 16, g 17, g 18, g 19, g 20, g 21, g 22, g 23, g 24, g 25, g 26, g 27, g 28, HV.int IntKind.i64 (↑i : Int), HV.ptr (eRule r) 3, encL 2 eSet r.thens, HV.int IntKind.i64 (↑r.thens.length : Int), HV.bool (decide ((↑i : Int) < (↑r.thens.length : Int))), HV.int IntKind.i64 (↑i : Int), HV.int IntKind.i64 (IntKind.i64.wrap ((↑i : Int) + 1)), HV.ptr (eRule r) 3, encL 2 eSet r.thens, HV.int IntKind.i64 (↑i : Int), HV.ptr [HV.int IntKind.i64 (r.thens.getD i default).flag, HV.bool (r.thens.getD i default).up] 0, HV.ptr [HV.int IntKind.i64 (r.thens.getD i default).flag, HV.bool (r.thens.getD i default).up] 0, HV.int IntKind.i64 (r.thens.getD i default).flag, HV.ptr (ePr p) 0, HV.int IntKind.i64 p.flags, HV.bool b, HV.bool !b, g 46, g 47, g 48, g 49, g 50, g 51, g 52, g 53, g 54, g 55, g 56, g 57, g 58, g 59, g 60, g 61, g 62, g 63, g 64, g 65, g 66, g 67, g 68, g 69, g 70, g 71, g 72], []))) none) (some (Ex.exit 0, [g 0, g 1, HV.ptr (ePr p) 0, HV.ptr (eRule r) 0, g 4, HV.int IntKind.i64 (↑i : Int), g 6, g 7, g 8, g 9, g 10, g 11, g 12, g 13, g 14, g 15, g 16, g 17, g 18, g 19, g 20, g 21, g 22, g 23, g 24, g 25, g 26, g 27, g 28, HV.int IntKind.i64 (↑i : Int), HV.ptr (eRule r) 3, encL 2 eSet r.thens, HV.int IntKind.i64 (↑r.thens.length : Int), HV.bool (decide ((↑i : Int) < (↑r.thens.length : Int))), g 34, g 35, g 36, g 37, g 38, g 39, g 40, g 41, g 42, g 43, g 44, g 45, g 46, g 47, g 48, g 49, g 50, g 51, g 52, g 53, g 54, g 55, g 56, g 57, g 58, g 59, g 60, g 61, g 62, g 63, g 64, g 65, g 66, g 67, g 68, g 69, g 70, g 71, g 72], [])) := by kernel_rfl
theorem r25b (X : Ext) (k : Nat) (p : Pr) (r : Rule) (i : Nat) (g : Nat → HV) :
    (evC ⟨PP, callP PP X FF k⟩ k (subC (fnCode PP 25) [1, 1, 1, 0, 1, 0, 0]) Out (fillP [none, none, some (.ptr (ePr p) 0), some (.ptr (eRule r) 0), none, none, some (.int .i64 i), none, none, none, none, none, none, none, none, none, none, none, none, none, none, none, none, none, none, none, none, none, none, none, none, none, none, none, none, none, none, none, none, none, none, none, none, none, none, none, none, none, none, none, none, none, none, none, none, none, none, none, none, none, none, none, none, none, none, none, none, none, none, none, none, none, none] 0 g) [] fun x e st => some (x, e, st)) =
    br (decide ((↑i : Int) < (↑r.conds.length : Int)))
  (br (decide (0 ≤ (↑i : Int) ∧ (↑i : Int) < (↑r.conds.length : Int)))
    (bndB (callP PP X FF k 24 [HV.lst 1 p.files.length fun i => eStr (p.files.getD i default), HV.str (r.conds.getD i default).file]) fun b =>
      br (!b) (some (Ex.ret, [g 0, g 1, HV.ptr (ePr p) 0, HV.ptr (eRule r) 0, HV.bool false, g 5, HV.int IntKind.i64 (↑i : Int), g 7, g 8, g 9, g 10, g 11, g 12, g 13, g 14, g 15, g 16, g 17, g 18, g 19, g 20, g 21, g 22, g 23, g 24, g 25, g 26, g 27, g 28, g 29, g 30, g 31, g 32, g 33, g 34, g 35, g 36, g 37, g 38, g 39, g 40, g 41, g 42, g 43, g 44, g 45, HV.int IntKind.i64 (↑i : Int), HV.ptr (eRule r) 2, encL 3 eCond r.conds, HV.int IntKind.i64 (↑r.conds.length : Int), HV.bool (decide ((↑i : Int) < (↑r.conds.length : Int))), g 51, g 52, HV.ptr (ePr p) 5, encL 1 eStr p.files, HV.ptr (eRule r) 2, encL 3 eCond r.conds, HV.int IntKind.i64 (↑i : Int), HV.ptr [HV.str (r.conds.getD i default).file, HV.str (r.conds.getD i default).op, HV.int IntKind.i64 (r.conds.getD i default).n] 0, HV.ptr [HV.str (r.conds.getD i default).file, HV.str (r.conds.getD i default).op, HV.int IntKind.i64 (r.conds.getD i default).n] 0, HV.str (r.conds.getD i default).file, HV.bool b, HV.bool !b, HV.bool true, HV.tup [], HV.tup [], HV.tup [], HV.tup [], HV.tup [], HV.tup [], HV.tup [], HV.tup [], HV.bool true], []))
        (br (decide (0 ≤ (↑i : Int) ∧ (↑i : Int) < (↑r.conds.length : Int))) (bndI IntKind.i64 (callP PP X FF k 65 [HV.str (r.conds.getD i default).op]) fun n => br (decide (n < 0)) (some (Ex.ret, [g 0, g 1, HV.ptr (ePr p) 0, HV.ptr (eRule r) 0, HV.bool false, g 5, HV.int IntKind.i64 (↑i : Int), g 7, g 8, g 9, g 10, g 11, g 12, g 13, g 14, g 15, g 16, g 17, g 18, g 19, g 20, g 21, g 22, g 23, g 24, g 25, g 26, g 27, g 28, g 29, g 30, g 31, g 32, g 33, g 34, g 35, g 36, g 37, g 38, g 39, g 40, g 41, g 42, g 43, g 44, g 45, HV.int IntKind.i64 (↑i : Int), HV.ptr (eRule r) 2, encL 3 eCond r.conds, HV.int IntKind.i64 (↑r.conds.length : Int), HV.bool (decide ((↑i : Int) < (↑r.conds.length : Int))), g 51, g 52, HV.ptr (ePr p) 5, encL 1 eStr p.files, HV.ptr (eRule r) 2, encL 3 eCond r.conds, HV.int IntKind.i64 (↑i : Int), HV.ptr [HV.str (r.conds.getD i default).file, HV.str (r.conds.getD i default).op, HV.int IntKind.i64 (r.conds.getD i default).n] 0, HV.ptr [HV.str (r.conds.getD i default).file, HV.str (r.conds.getD i default).op, HV.int IntKind.i64 (r.conds.getD i default).n] 0, HV.str (r.conds.getD i default).file, HV.bool b, HV.bool !b, HV.bool false, HV.ptr (eRule r) 2, encL 3 eCond r.conds, HV.int IntKind.i64 (↑i : Int), HV.ptr [HV.str (r.conds.getD i default).file, HV.str (r.conds.getD i default).op, HV.int IntKind.i64 (r.conds.getD i default).n] 0, HV.ptr [HV.str (r.conds.getD i default).file, HV.str (r.conds.getD i default).op, HV.int IntKind.i64 (r.conds.getD i default).n] 1, HV.str (r.conds.getD i default).op, HV.int IntKind.i64 n, HV.bool (decide (n < 0)), HV.bool (decide (n < 0))], [])) (some (Ex.normal, [g 0, g 1, HV.ptr (ePr p) 0, HV.ptr (eRule r) 0, g 4, g 5, HV.int IntKind.i64 (IntKind.i64.wrap ((↑i : Int) + 1)), g 7, g 8, g 9, g 10, g 11, g 12, g 13, g 14, g 15, g 16, g 17, g 18, g 19, g 20, g 21, g 22, g 23, g 24, g 25, g 26, g 27, g 28, g 29, g 30, g 31, g 32, g 33, g 34, g 35, g 36, g 37, g 38, g 39, g 40, g 41, g 42, g 43, g 44, g 45, HV.int IntKind.i64 (↑i : Int), HV.ptr (eRule r) 2, encL 3 eCond r.conds, HV.int IntKind.i64 (↑r.conds.length : Int), HV.bool (decide ((↑i : Int) < (↑r.conds.length : Int))), HV.int IntKind.i64 (↑i : Int), HV.int IntKind.i64 (IntKind.i64.wrap ((↑i : Int) + 1)), HV.ptr (ePr p) 5, encL 1 eStr p.files, HV.ptr (eRule r) 2, encL 3 eCond r.conds, HV.int IntKind.i64 (↑i : Int), HV.ptr [HV.str (r.conds.getD i default).file, HV.str (r.conds.getD i default).op, HV.int IntKind.i64 (r.conds.getD i default).n] 0, HV.ptr [HV.str (r.conds.getD i default).file, HV.str (r.conds.getD i default).op, HV.int IntKind.i64 (r.conds.getD i default).n] 0, HV.str (r.conds.getD i default).file, HV.bool b, HV.bool !b, HV.bool false, HV.ptr (eRule r) 2, encL 3 eCond r.conds, HV.int IntKind.i64 (↑i : Int), HV.ptr [HV.str (r.conds.getD i default).file, HV.str (r.conds.getD i default).op, HV.int IntKind.i64 (r.conds.getD i default).n] 0, HV.ptr [HV.str (r.conds.getD i default).file, HV.str (r.conds.getD i default).op, HV.int IntKind.i64 (r.conds.getD i default).n] 1, HV.str (r.conds.getD i default).op, HV.int IntKind.i64 n, HV.bool (decide (n < 0)), HV.bool (decide (n < 0))], []))) none))
    none)
  (some (Ex.exit 2, [g 0, g 1, HV.ptr (ePr p) 0, HV.ptr (eRule r) 0, g 4, g 5, HV.int IntKind.i64 (↑i : Int), g 7, g 8, g 9, g 10, g 11, g 12, g 13, g 14, g 15, g 16, g 17, g 18, g 19, g 20, g 21, g 22, g 23, g 24, g 25, g 26, g 27, g 28, g 29, g 30, g 31, g 32, g 33, g 34, g 35, g 36, g 37, g 38, g 39, g 40, g 41, g 42, g 43, g 44, g 45, HV.int IntKind.i64 (↑i : Int), HV.ptr (eRule r) 2, encL 3 eCond r.conds, HV.int IntKind.i64 (↑r.conds.length : Int), HV.bool (decide ((↑i : Int) < (↑r.conds.length : Int))), g 51, g 52, g 53, g 54, g 55, g 56, g 57, g 58, g 59, g 60, g 61, g 62, g 63, g 64, g 65, g 66, g 67, g 68, g 69, g 70, g 71, g 72], [])) := by kernel_rfl
def headB (p : Pr) (r : Rule) : Bool := inB r.stratum 1 21 && decide (r.thens.length ≠ 0) && r.ifs.all (fun x => inB x.flag 0 p.flags)
theorem s25 (hX : Xok X) {k : Nat} (hk : BB + 3 ≤ k) (p : Pr) (r : Rule) (hr : OkRule r) (g : Nat → HV) : Giv (evC ⟨PP, callP PP X FF k⟩ k (subC (fnCode PP 25) [1, 0]) Out (fillP [none, none, some (.ptr (ePr p) 0), some (.ptr (eRule r) 0), none, none, none, none, none, none, none, none, none, none, none, none, none, none, none, none, none, none, none, none, none, none, none, none, none, none, none, none, none, none, none, none, none, none, none, none, none, none, none, none, none, none, none, none, none, none, none, none, none, none, none, none, none, none, none, none, none, none, none, none, none, none, none, none, none, none, none, none, none] 0 g) [] fun x e st => some (x, e, st))
    (fun o => (o.1 = .ret ∧ headB p r = false ∧ o.2.2 = [] ∧ Mt [none, none, none, none, some (.bool false), none, none, none, none, none, none, none, none, none, none, none, none, none, none, none, none, none, none, none, none, none, none, none, none, none, none, none, none, none, none, none, none, none, none, none, none, none, none, none, none, none, none, none, none, none, none, none, none, none, none, none, none, none, none, none, none, none, none, none, none, none, none, none, none, none, none, none, none] o.2.1) ∨ (o.1 = .normal ∧ headB p r = true ∧ o.2.2 = [] ∧ Mt [none, none, some (.ptr (ePr p) 0), some (.ptr (eRule r) 0), none, none, none, none, none, none, none, none, none, none, none, none, none, none, none, none, none, none, none, none, none, none, none, none, none, none, none, none, none, none, none, none, none, none, none, none, none, none, none, none, none, none, none, none, none, none, none, none, none, none, none, none, none, none, none, none, none, none, none, none, none, none, none, none, none, none, none, none, none] o.2.1)) := by
  rw [s25b]
  refine Giv.p (c := r.stratum < 1) (fun h1 => Giv.ok (.inl ⟨rfl, ?_, rfl, (by repeat' (first | exact trivial | exact rfl | (refine ⟨?_, ?_⟩)))⟩)) (fun h1 => ?_)
  · simp [headB, inB]; omega
  refine Giv.p (c := 20 < r.stratum) (fun h2 => Giv.ok (.inl ⟨rfl, ?_, rfl, (by repeat' (first | exact trivial | exact rfl | (refine ⟨?_, ?_⟩)))⟩)) (fun h2 => ?_)
  · simp [headB, inB]; omega
  refine Giv.p (fun h3 => Giv.ok (.inl ⟨rfl, ?_, rfl, (by repeat' (first | exact trivial | exact rfl | (refine ⟨?_, ?_⟩)))⟩)) (fun h3 => ?_)
  · have h3 : r.thens.length = 0 := by omega
    simp [headB, h3]
  refine Giv.B (f64 (k := k) hX (by omega) r.ifs hr.ifs p.flags) ?_
  have h5 : inB r.stratum 1 21 = true := by simp [inB]; omega
  have h6 : decide (r.thens.length ≠ 0) = true := by simp only [decide_eq_true_eq]; omega
  refine Giv.b (fun h4 => Giv.ok (.inl ⟨rfl, ?_, rfl, (by repeat' (first | exact trivial | exact rfl | (refine ⟨?_, ?_⟩)))⟩)) (fun h4 => Giv.ok (.inr ⟨rfl, ?_, rfl, (by repeat' (first | exact trivial | exact rfl | (refine ⟨?_, ?_⟩)))⟩))
  · simp only [Bool.not_eq_true'] at h4
    simp only [headB, h4, Bool.and_false]
  · simp only [Bool.not_eq_false'] at h4
    simp only [headB, h4, h5, h6, Bool.and_true]
theorem condB_op (files : List ByteArray) (x : Cond) : condB files x = (files.any (fun y => decide (y = x.file)) && opsL.any (fun y => decide (y = x.op))) := rfl
end
end Go.Rul
end

section
namespace Go.Rul
open Go.Eng
set_option maxRecDepth 100000
set_option linter.unusedVariables false

section
variable {X : Ext}
theorem c65 : Go.Proofs.Try.f65.body = some (fnCode PP 65) := by kernel_rfl
theorem c65a : fnCode PP 65 = .seq (subC (fnCode PP 65) [0]) (subC (fnCode PP 65) [1]) := by kernel_rfl
theorem c65b : subC (fnCode PP 65) [1] = .seq (subC (fnCode PP 65) [1, 0]) (subC (fnCode PP 65) [1, 1]) := by kernel_rfl
theorem s65a (X : Ext) (k : Nat) (s : ByteArray) :
    (evC ⟨PP, callP PP X FF k⟩ k (subC (fnCode PP 65) [0]) Out ([.str s] ++ List.replicate (Go.Proofs.Try.f65.ntmps - [HV.str s].length) .undef) [] fun x e st => some (x, e, st)) =
    some (Ex.normal, (sl 0 19 [(0, HV.str s), (2, HV.int IntKind.i64 (0))]), []) := by kernel_rfl
theorem s65b (X : Ext) (k : Nat) (s : ByteArray) (g : Nat → HV) :
    (evC ⟨PP, callP PP X FF k⟩ k (subC (fnCode PP 65) [1, 0]) Out (fillP [some (.str s), none, none, none, none, none, none, none, none, none, none, none, none, none, none, none, none, none, none] 0 g) [] fun x e st => some (x, e, st)) =
    some (Ex.normal, [HV.str s, g 1, g 2, HV.own 0 1 6 (nthC [[HV.str { data := #[60] }], [HV.str { data := #[60, 61] }], [HV.str { data := #[61] }], [HV.str { data := #[33, 61] }], [HV.str { data := #[62, 61] }], [HV.str { data := #[62] }]] [HV.str ByteArray.empty]), g 4, HV.own 0 1 6 (nthC [[HV.str { data := #[60] }], [HV.str { data := #[60, 61] }], [HV.str { data := #[61] }], [HV.str { data := #[33, 61] }], [HV.str { data := #[62, 61] }], [HV.str { data := #[62] }]] [HV.str ByteArray.empty]), g 6, g 7, g 8, g 9, g 10, g 11, g 12, g 13, g 14, g 15, g 16, g 17, g 18], [Slot.tok 9]) := by kernel_rfl
theorem nthC_enc {α : Type} [Inhabited α] (enc : α → List HV) (l : List α) : nthC (l.map enc) (enc default) = fun i => enc (l.getD i default) := by
  have := lst_nthC 0 enc l
  unfold encL at this
  injection this
theorem r65 (X : Ext) (k : Nat) (s : ByteArray) (i : Nat) (g : Nat → HV) :
    (evC ⟨PP, callP PP X FF k⟩ k (subC (fnCode PP 65) [1, 1, 0, 1, 0, 0]) Out (fillP [some (.str s), none, none, some (.own 0 1 6 (fun i => eStr (opsL.getD i default))), some (.int .i64 i), none, none, none, none, none, none, none, none, none, none, none, none, none, none] 0 g) [.tok 9] fun x e st => some (x, e, st)) =
    br (decide ((↑i : Int) < (↑6 : Int))) (br (decide (0 ≤ (↑i : Int) ∧ (↑i : Int) < (↑6 : Int))) (br (decide (opsL.getD i default = s)) (some (Ex.ret, [HV.str s, g 1, HV.int IntKind.i64 (↑i : Int), HV.own 0 1 6 fun i => eStr (opsL.getD i default), HV.int IntKind.i64 (↑i : Int), g 5, HV.int IntKind.i64 (↑i : Int), HV.own 0 1 6 fun i => eStr (opsL.getD i default), HV.int IntKind.i64 (↑6 : Int), HV.bool (decide ((↑i : Int) < (↑6 : Int))), g 10, g 11, HV.own 0 1 6 fun i => eStr (opsL.getD i default), HV.int IntKind.i64 (↑i : Int), HV.ptr [HV.str (opsL.getD i default)] 0, HV.str (opsL.getD i default), HV.str s, HV.bool (decide (opsL.getD i default = s)), HV.int IntKind.i64 (↑i : Int)], [Slot.tok 9])) (some (Ex.normal, [HV.str s, g 1, g 2, HV.own 0 1 6 fun i => eStr (opsL.getD i default), HV.int IntKind.i64 (IntKind.i64.wrap ((↑i : Int) + 1)), g 5, HV.int IntKind.i64 (↑i : Int), HV.own 0 1 6 fun i => eStr (opsL.getD i default), HV.int IntKind.i64 (↑6 : Int), HV.bool (decide ((↑i : Int) < (↑6 : Int))), HV.int IntKind.i64 (↑i : Int), HV.int IntKind.i64 (IntKind.i64.wrap ((↑i : Int) + 1)), HV.own 0 1 6 fun i => eStr (opsL.getD i default), HV.int IntKind.i64 (↑i : Int), HV.ptr [HV.str (opsL.getD i default)] 0, HV.str (opsL.getD i default), HV.str s, HV.bool (decide (opsL.getD i default = s)), g 18], [Slot.tok 9]))) none) (some (Ex.exit 0, [HV.str s, g 1, g 2, HV.own 0 1 6 fun i => eStr (opsL.getD i default), HV.int IntKind.i64 (↑i : Int), g 5, HV.int IntKind.i64 (↑i : Int), HV.own 0 1 6 fun i => eStr (opsL.getD i default), HV.int IntKind.i64 (↑6 : Int), HV.bool (decide ((↑i : Int) < (↑6 : Int))), g 10, g 11, g 12, g 13, g 14, g 15, g 16, g 17, g 18], [Slot.tok 9])) := by kernel_rfl
theorem f65 (hX : Xok X) {k : Nat} (hk : BB + 1 ≤ k) (s : ByteArray) : ∃ r : Int, callP PP X FF k 65 [.str s] = some (.int .i64 r) ∧ decide (r < 0) = !opsL.any fun y => decide (y = s) := by
  obtain ⟨k, rfl, hk⟩ := fuel_pos hk
  rw [call_eq hX rfl _ Go.Proofs.Try.func65]
  suffices hs : Giv (body ⟨PP, callP PP X FF k⟩ k Go.Proofs.Try.f65 [.str s]) (fun v => ∃ r : Int, v = .int .i64 r ∧ decide (r < 0) = !opsL.any fun y => decide (y = s)) by
    obtain ⟨v, h1, r, rfl, h2⟩ := hs
    exact ⟨r, h1, h2⟩
  refine Giv.body c65 (Giv.seq c65a (Q1 := fun o => o.1 = .normal ∧ o.2.2 = [] ∧ Mt [some (.str s), none, none, none, none, none, none, none, none, none, none, none, none, none, none, none, none, none, none] o.2.1) ?_ ?_ (fun x e st h1 h2 => absurd h2.1 h1))
  · rw [s65a]; exact Giv.ok ⟨rfl, rfl, (by repeat' (first | exact trivial | exact rfl | (refine ⟨?_, ?_⟩)))⟩
  intro e st h
  obtain ⟨_, hst, hM⟩ := h
  have hst : st = [] := hst
  subst hst
  obtain ⟨g, rfl⟩ := hM.elim 0
  refine Giv.seq c65b (Q1 := fun o => o.1 = .normal ∧ o.2.2 = [.tok 9] ∧ Mt [some (.str s), none, none, some (.own 0 1 6 (fun i => eStr (opsL.getD i default))), none, none, none, none, none, none, none, none, none, none, none, none, none, none, none] o.2.1) ?_ ?_ (fun x e st h1 h2 => absurd h2.1 h1)
  · rw [s65b]; exact Giv.ok ⟨rfl, rfl, rfl, congrArg (HV.own 0 1 6) (nthC_enc eStr opsL), trivial⟩
  intro e st h
  obtain ⟨_, hst, hM⟩ := h
  have hst : st = [.tok 9] := hst
  subst hst
  obtain ⟨g, rfl⟩ := hM.elim 0
  refine Giv.O (scan 6 (fun i => decide (opsL.getD i default = s)) (fun i e => Mt [some (.str s), none, none, some (.own 0 1 6 (fun i => eStr (opsL.getD i default))), some (.int .i64 i), none, none, none, none, none, none, none, none, none, none, none, none, none, none] e) (QT := fun i r => r.1 = .ret ∧ Mt [none, none, some (.int .i64 i), none, none, none, none, none, none, none, none, none, none, none, none, none, none, none, none] r.2.1) (QE := fun r => r.1 = .exit 0 ∧ Mt [none, none, none, none, none, none, none, none, none, none, none, none, none, none, none, none, none, none, none] r.2.1) (by repeat' (first | exact trivial | exact rfl | (refine ⟨?_, ?_⟩))) (by unfold BB at hk; omega) ?_ ?_ ?_) ?_
  · intro i e hi hT hI
    obtain ⟨g, rfl⟩ := hI.elim 0
    refine Giv.of_eq (r65 X k s i g) ?_
    (repeat (apply Giv.c; focus (first | assumption | exact (rfl : _ = true) | exact (rfl : _ = false) | exact decide_eq_true (by first | assumption | omega) | exact decide_eq_false (by first | assumption | omega))))
    exact Giv.ok ⟨rfl, (by repeat' (first | exact trivial | exact rfl | exact congrArg _ (wrap64 (by omega) (by omega)) | (refine ⟨?_, ?_⟩))), rfl⟩
  · intro i e hi hT hI
    obtain ⟨g, rfl⟩ := hI.elim 0
    refine Giv.of_eq (r65 X k s i g) ?_
    (repeat (apply Giv.c; focus (first | assumption | exact (rfl : _ = true) | exact (rfl : _ = false) | exact decide_eq_true (by first | assumption | omega) | exact decide_eq_false (by first | assumption | omega))))
    exact Giv.ok ⟨(by intro h; cases h), rfl, (by repeat' (first | exact trivial | exact rfl | (refine ⟨?_, ?_⟩)))⟩
  · intro e hI
    obtain ⟨g, rfl⟩ := hI.elim 0
    refine Giv.of_eq (r65 X k s 6 g) ?_
    (repeat (apply Giv.c; focus (first | assumption | exact (rfl : _ = true) | exact (rfl : _ = false) | exact decide_eq_true (by first | assumption | omega) | exact decide_eq_false (by first | assumption | omega))))
    exact Giv.ok ⟨(by intro h; cases h), rfl, (by repeat' (first | exact trivial | exact rfl | (refine ⟨?_, ?_⟩)))⟩
  · intro x e st h
    rcases h with ⟨i, hi, hT, hf, hx, hM⟩ | ⟨hf, hx, hM⟩
    · obtain ⟨g, rfl⟩ := hM.elim 0
      have hx : x = .ret := hx
      subst hx
      refine Giv.ok ⟨i, rfl, ?_⟩
      rw [any_of (p := fun y => decide (y = s)) (l := opsL) hi hT]
      exact decide_eq_false (by omega)
    · obtain ⟨g, rfl⟩ := hM.elim 0
      have hx : x = .exit 0 := hx
      subst hx
      refine Giv.ok ⟨-1, rfl, ?_⟩
      rw [any_not (p := fun y => decide (y = s)) (l := opsL) hf]
      rfl
end
end Go.Rul
end

section
namespace Go.Rul
open Go.Eng
set_option maxRecDepth 100000
set_option linter.unusedVariables false

section
variable {X : Ext}
theorem c25c : subC (fnCode PP 25) [1, 1] = .seq (subC (fnCode PP 25) [1, 1, 0]) (subC (fnCode PP 25) [1, 1, 1]) := by kernel_rfl
theorem c25d : subC (fnCode PP 25) [1, 1, 1] = .seq (subC (fnCode PP 25) [1, 1, 1, 0]) (subC (fnCode PP 25) [1, 1, 1, 1]) := by kernel_rfl
theorem l25a (hX : Xok X) {k : Nat} (hk : BB + 3 ≤ k) (p : Pr) (r : Rule) (hr : OkRule r) (g : Nat → HV) : Giv (evC ⟨PP, callP PP X FF k⟩ k (subC (fnCode PP 25) [1, 1, 0]) Out (fillP [none, none, some (.ptr (ePr p) 0), some (.ptr (eRule r) 0), none, none, none, none, none, none, none, none, none, none, none, none, none, none, none, none, none, none, none, none, none, none, none, none, none, none, none, none, none, none, none, none, none, none, none, none, none, none, none, none, none, none, none, none, none, none, none, none, none, none, none, none, none, none, none, none, none, none, none, none, none, none, none, none, none, none, none, none, none] 0 g) [] fun x e st => some (x, e, st))
    (fun o => (o.1 = .ret ∧ (r.thens.all fun x => inB x.flag 0 p.flags) = false ∧ o.2.2 = [] ∧ Mt [none, none, none, none, some (.bool false), none, none, none, none, none, none, none, none, none, none, none, none, none, none, none, none, none, none, none, none, none, none, none, none, none, none, none, none, none, none, none, none, none, none, none, none, none, none, none, none, none, none, none, none, none, none, none, none, none, none, none, none, none, none, none, none, none, none, none, none, none, none, none, none, none, none, none, none] o.2.1) ∨ (o.1 = .normal ∧ (r.thens.all fun x => inB x.flag 0 p.flags) = true ∧ o.2.2 = [] ∧ Mt [none, none, some (.ptr (ePr p) 0), some (.ptr (eRule r) 0), none, none, none, none, none, none, none, none, none, none, none, none, none, none, none, none, none, none, none, none, none, none, none, none, none, none, none, none, none, none, none, none, none, none, none, none, none, none, none, none, none, none, none, none, none, none, none, none, none, none, none, none, none, none, none, none, none, none, none, none, none, none, none, none, none, none, none, none, none] o.2.1)) := by
  have hl := hr.thens
  unfold Len at hl
  refine Giv.O (scan r.thens.length (fun i => !inB (r.thens.getD i default).flag 0 p.flags) (fun i e => Mt [none, none, some (.ptr (ePr p) 0), some (.ptr (eRule r) 0), none, some (.int .i64 i), none, none, none, none, none, none, none, none, none, none, none, none, none, none, none, none, none, none, none, none, none, none, none, none, none, none, none, none, none, none, none, none, none, none, none, none, none, none, none, none, none, none, none, none, none, none, none, none, none, none, none, none, none, none, none, none, none, none, none, none, none, none, none, none, none, none, none] e) (QT := fun i r => r.1 = .ret ∧ r.2.2 = [] ∧ Mt [none, none, none, none, some (.bool false), none, none, none, none, none, none, none, none, none, none, none, none, none, none, none, none, none, none, none, none, none, none, none, none, none, none, none, none, none, none, none, none, none, none, none, none, none, none, none, none, none, none, none, none, none, none, none, none, none, none, none, none, none, none, none, none, none, none, none, none, none, none, none, none, none, none, none, none] r.2.1) (QE := fun o => o.1 = .exit 0 ∧ o.2.2 = [] ∧ Mt [none, none, some (.ptr (ePr p) 0), some (.ptr (eRule r) 0), none, none, none, none, none, none, none, none, none, none, none, none, none, none, none, none, none, none, none, none, none, none, none, none, none, none, none, none, none, none, none, none, none, none, none, none, none, none, none, none, none, none, none, none, none, none, none, none, none, none, none, none, none, none, none, none, none, none, none, none, none, none, none, none, none, none, none, none, none] o.2.1) (by repeat' (first | exact trivial | exact rfl | (refine ⟨?_, ?_⟩))) (by unfold BB at hk; omega) ?_ ?_ ?_) ?_
  · intro i e hi hT hI
    obtain ⟨g, rfl⟩ := hI.elim 0
    refine Giv.of_eq (r25a X k p r i g) ?_
    (repeat (apply Giv.c; focus (first | assumption | exact (rfl : _ = true) | exact (rfl : _ = false) | exact decide_eq_true (by first | assumption | omega) | exact decide_eq_false (by first | assumption | omega))))
    refine Giv.B (f63 (k := k) hX (by omega) _ _) ?_
    refine Giv.ff hT ?_
    exact Giv.ok ⟨rfl, (by repeat' (first | exact trivial | exact rfl | exact congrArg _ (wrap64 (by omega) (by omega)) | (refine ⟨?_, ?_⟩))), rfl⟩
  · intro i e hi hT hI
    obtain ⟨g, rfl⟩ := hI.elim 0
    refine Giv.of_eq (r25a X k p r i g) ?_
    (repeat (apply Giv.c; focus (first | assumption | exact (rfl : _ = true) | exact (rfl : _ = false) | exact decide_eq_true (by first | assumption | omega) | exact decide_eq_false (by first | assumption | omega))))
    refine Giv.B (f63 (k := k) hX (by omega) _ _) ?_
    refine Giv.tt hT ?_
    exact Giv.ok ⟨(by intro h; cases h), rfl, rfl, (by repeat' (first | exact trivial | exact rfl | (refine ⟨?_, ?_⟩)))⟩
  · intro e hI
    obtain ⟨g, rfl⟩ := hI.elim 0
    refine Giv.of_eq (r25a X k p r r.thens.length g) ?_
    (repeat (apply Giv.c; focus (first | assumption | exact (rfl : _ = true) | exact (rfl : _ = false) | exact decide_eq_true (by first | assumption | omega) | exact decide_eq_false (by first | assumption | omega))))
    exact Giv.ok ⟨(by intro h; cases h), rfl, rfl, (by repeat' (first | exact trivial | exact rfl | (refine ⟨?_, ?_⟩)))⟩
  · intro x e st h
    rcases h with ⟨i, hi, hT, hf, hx, hst, hM⟩ | ⟨hf, hx, hst, hM⟩
    · have hx : x = .ret := hx
      subst hx
      exact Giv.ok (.inl ⟨rfl, all_not hi (by simpa using hT), hst, hM⟩)
    · have hx : x = .exit 0 := hx
      subst hx
      exact Giv.ok (.inr ⟨rfl, all_of (fun j hj => by simpa using hf j hj), hst, hM⟩)
theorem l25b (hX : Xok X) {k : Nat} (hk : BB + 3 ≤ k) (p : Pr) (hp : OkPr p) (r : Rule) (hr : OkRule r) (g : Nat → HV) : Giv (evC ⟨PP, callP PP X FF k⟩ k (subC (fnCode PP 25) [1, 1, 1, 0]) Out (fillP [none, none, some (.ptr (ePr p) 0), some (.ptr (eRule r) 0), none, none, none, none, none, none, none, none, none, none, none, none, none, none, none, none, none, none, none, none, none, none, none, none, none, none, none, none, none, none, none, none, none, none, none, none, none, none, none, none, none, none, none, none, none, none, none, none, none, none, none, none, none, none, none, none, none, none, none, none, none, none, none, none, none, none, none, none, none] 0 g) [] fun x e st => some (x, e, st))
    (fun o => (o.1 = .ret ∧ r.conds.all (condB p.files) = false ∧ o.2.2 = [] ∧ Mt [none, none, none, none, some (.bool false), none, none, none, none, none, none, none, none, none, none, none, none, none, none, none, none, none, none, none, none, none, none, none, none, none, none, none, none, none, none, none, none, none, none, none, none, none, none, none, none, none, none, none, none, none, none, none, none, none, none, none, none, none, none, none, none, none, none, none, none, none, none, none, none, none, none, none, none] o.2.1) ∨ (o.1 = .normal ∧ r.conds.all (condB p.files) = true ∧ o.2.2 = [] ∧ Mt [none, none, none, none, none, none, none, none, none, none, none, none, none, none, none, none, none, none, none, none, none, none, none, none, none, none, none, none, none, none, none, none, none, none, none, none, none, none, none, none, none, none, none, none, none, none, none, none, none, none, none, none, none, none, none, none, none, none, none, none, none, none, none, none, none, none, none, none, none, none, none, none, none] o.2.1)) := by
  have hl := hr.conds
  unfold Len at hl
  refine Giv.O (scan r.conds.length (fun i => !condB p.files (r.conds.getD i default)) (fun i e => Mt [none, none, some (.ptr (ePr p) 0), some (.ptr (eRule r) 0), none, none, some (.int .i64 i), none, none, none, none, none, none, none, none, none, none, none, none, none, none, none, none, none, none, none, none, none, none, none, none, none, none, none, none, none, none, none, none, none, none, none, none, none, none, none, none, none, none, none, none, none, none, none, none, none, none, none, none, none, none, none, none, none, none, none, none, none, none, none, none, none, none] e) (QT := fun i r => r.1 = .ret ∧ r.2.2 = [] ∧ Mt [none, none, none, none, some (.bool false), none, none, none, none, none, none, none, none, none, none, none, none, none, none, none, none, none, none, none, none, none, none, none, none, none, none, none, none, none, none, none, none, none, none, none, none, none, none, none, none, none, none, none, none, none, none, none, none, none, none, none, none, none, none, none, none, none, none, none, none, none, none, none, none, none, none, none, none] r.2.1) (QE := fun o => o.1 = .exit 2 ∧ o.2.2 = [] ∧ Mt [none, none, none, none, none, none, none, none, none, none, none, none, none, none, none, none, none, none, none, none, none, none, none, none, none, none, none, none, none, none, none, none, none, none, none, none, none, none, none, none, none, none, none, none, none, none, none, none, none, none, none, none, none, none, none, none, none, none, none, none, none, none, none, none, none, none, none, none, none, none, none, none, none] o.2.1) (by repeat' (first | exact trivial | exact rfl | (refine ⟨?_, ?_⟩))) (by unfold BB at hk; omega) ?_ ?_ ?_) ?_
  · intro i e hi hT hI
    obtain ⟨g, rfl⟩ := hI.elim 0
    refine Giv.of_eq (r25b X k p r i g) ?_
    (repeat (apply Giv.c; focus (first | assumption | exact (rfl : _ = true) | exact (rfl : _ = false) | exact decide_eq_true (by first | assumption | omega) | exact decide_eq_false (by first | assumption | omega))))
    refine Giv.B (f24 (k := k) hX (by omega) p.files hp.files _) ?_
    simp only [condB, Bool.not_eq_false', Bool.and_eq_true] at hT
    refine Giv.ff (by rw [hT.1]; rfl) ?_
    (repeat (apply Giv.c; focus (first | assumption | exact (rfl : _ = true) | exact (rfl : _ = false) | exact decide_eq_true (by first | assumption | omega) | exact decide_eq_false (by first | assumption | omega))))
    obtain ⟨n, h1, h2⟩ := f65 (k := k) hX (by omega) (r.conds.getD i default).op
    refine Giv.I h1 ?_
    refine Giv.ff (by rw [h2, hT.2]; rfl) ?_
    exact Giv.ok ⟨rfl, (by repeat' (first | exact trivial | exact rfl | exact congrArg _ (wrap64 (by omega) (by omega)) | (refine ⟨?_, ?_⟩))), rfl⟩
  · intro i e hi hT hI
    obtain ⟨g, rfl⟩ := hI.elim 0
    refine Giv.of_eq (r25b X k p r i g) ?_
    (repeat (apply Giv.c; focus (first | assumption | exact (rfl : _ = true) | exact (rfl : _ = false) | exact decide_eq_true (by first | assumption | omega) | exact decide_eq_false (by first | assumption | omega))))
    refine Giv.B (f24 (k := k) hX (by omega) p.files hp.files _) ?_
    simp only [condB, Bool.not_eq_true', Bool.and_eq_false_iff] at hT
    refine Giv.b (fun h => ?_) (fun h => ?_)
    · exact Giv.ok ⟨(by intro h; cases h), rfl, rfl, (by repeat' (first | exact trivial | exact rfl | (refine ⟨?_, ?_⟩)))⟩
    · (repeat (apply Giv.c; focus (first | assumption | exact (rfl : _ = true) | exact (rfl : _ = false) | exact decide_eq_true (by first | assumption | omega) | exact decide_eq_false (by first | assumption | omega))))
      obtain ⟨n, h1, h2⟩ := f65 (k := k) hX (by omega) (r.conds.getD i default).op
      refine Giv.I h1 ?_
      simp only [Bool.not_eq_false'] at h
      have h4 := hT.resolve_left (by intro h5; exact absurd (h.symm.trans h5) (by decide))
      refine Giv.tt (by rw [h2, h4]; rfl) ?_
      exact Giv.ok ⟨(by intro h; cases h), rfl, rfl, (by repeat' (first | exact trivial | exact rfl | (refine ⟨?_, ?_⟩)))⟩
  · intro e hI
    obtain ⟨g, rfl⟩ := hI.elim 0
    refine Giv.of_eq (r25b X k p r r.conds.length g) ?_
    (repeat (apply Giv.c; focus (first | assumption | exact (rfl : _ = true) | exact (rfl : _ = false) | exact decide_eq_true (by first | assumption | omega) | exact decide_eq_false (by first | assumption | omega))))
    exact Giv.ok ⟨(by intro h; cases h), rfl, rfl, (by repeat' (first | exact trivial | exact rfl | (refine ⟨?_, ?_⟩)))⟩
  · intro x e st h
    rcases h with ⟨i, hi, hT, hf, hx, hst, hM⟩ | ⟨hf, hx, hst, hM⟩
    · have hx : x = .ret := hx
      subst hx
      exact Giv.ok (.inl ⟨rfl, all_not hi (by simpa using hT), hst, hM⟩)
    · have hx : x = .exit 2 := hx
      subst hx
      exact Giv.ok (.inr ⟨rfl, all_of (fun j hj => by simpa using hf j hj), hst, hM⟩)
theorem f25 (hX : Xok X) {k : Nat} (hk : BB + 4 ≤ k) (p : Pr) (hp : OkPr p) (r : Rule) (hr : OkRule r) : callP PP X FF k 25 [.agg (ePr p), .agg (eRule r)] = some (.bool (ruleB p r)) := by
  obtain ⟨k, rfl, hk⟩ := fuel_pos hk
  rw [call_eq hX rfl _ Go.Proofs.Try.func25]
  refine Giv.eq ?_
  have hsp : ruleB p r = (headB p r && (r.thens.all fun x => inB x.flag 0 p.flags) && r.conds.all (condB p.files)) := rfl
  refine Giv.body c25 (Giv.seq c25a (Q1 := fun o => o.1 = .normal ∧ o.2.2 = [] ∧ Mt [none, none, some (.ptr (ePr p) 0), some (.ptr (eRule r) 0), none, none, none, none, none, none, none, none, none, none, none, none, none, none, none, none, none, none, none, none, none, none, none, none, none, none, none, none, none, none, none, none, none, none, none, none, none, none, none, none, none, none, none, none, none, none, none, none, none, none, none, none, none, none, none, none, none, none, none, none, none, none, none, none, none, none, none, none, none] o.2.1) ?_ ?_ (fun x e st h1 h2 => absurd h2.1 h1))
  · rw [s25a]; exact Giv.ok ⟨rfl, rfl, (by repeat' (first | exact trivial | exact rfl | (refine ⟨?_, ?_⟩)))⟩
  intro e st h
  obtain ⟨_, hst, hM⟩ := h
  have hst : st = [] := hst
  subst hst
  obtain ⟨g, rfl⟩ := hM.elim 0
  refine Giv.seq c25b (s25 hX (by omega) p r hr g) ?_ ?_
  rotate_left
  · intro x e st hx h
    rcases h with ⟨h1, h2, h3, hM⟩ | ⟨h1, _⟩
    · have h1 : x = .ret := h1
      subst h1
      obtain ⟨g, rfl⟩ := hM.elim 0
      exact Giv.ok (by rw [hsp, h2]; rfl)
    · exact absurd h1 hx
  intro e st h
  rcases h with ⟨h1, _⟩ | ⟨_, hh, hst, hM⟩
  · cases h1
  have hst : st = [] := hst
  subst hst
  obtain ⟨g, rfl⟩ := hM.elim 0
  refine Giv.seq c25c (l25a hX (by omega) p r hr g) ?_ ?_
  rotate_left
  · intro x e st hx h
    rcases h with ⟨h1, h2, h3, hM⟩ | ⟨h1, _⟩
    · have h1 : x = .ret := h1
      subst h1
      obtain ⟨g, rfl⟩ := hM.elim 0
      exact Giv.ok (by rw [hsp, h2, Bool.and_false]; rfl)
    · exact absurd h1 hx
  intro e st h
  rcases h with ⟨h1, _⟩ | ⟨_, ht, hst, hM⟩
  · cases h1
  have hst : st = [] := hst
  subst hst
  obtain ⟨g, rfl⟩ := hM.elim 0
  refine Giv.seq c25d (l25b hX (by omega) p hp r hr g) ?_ ?_
  rotate_left
  · intro x e st hx h
    rcases h with ⟨h1, h2, h3, hM⟩ | ⟨h1, _⟩
    · have h1 : x = .ret := h1
      subst h1
      obtain ⟨g, rfl⟩ := hM.elim 0
      exact Giv.ok (by rw [hsp, h2, Bool.and_false]; rfl)
    · exact absurd h1 hx
  intro e st h
  rcases h with ⟨h1, _⟩ | ⟨_, hc, hst, hM⟩
  · cases h1
  have hst : st = [] := hst
  subst hst
  obtain ⟨g, rfl⟩ := hM.elim 0
  exact Giv.ok (by rw [hsp, hh, ht, hc]; rfl)
end
end Go.Rul
end
