/- Programs of rules: whether a program may be, as the document has it. -/
import Derived.Test.YtokpjbddoppdpaaRulD
set_option linter.unusedVariables false
set_option linter.unusedSimpArgs false
set_option linter.unusedSectionVars false
section
namespace Go.Rul
open Go.Eng
set_option maxRecDepth 100000
set_option linter.unusedVariables false

def refH (p : Pr) : Bool := !decide (p.flags < 0) && (!decide (800 < p.flags) && (!decide (p.lasting < 0) && (!decide (p.flags < p.lasting) && (risB p.first p.lasting && (risB p.over p.lasting && (!decide (p.from_ < 1) && (!decide (20 < p.from_) && (!decide (1500 < (p.rules.length : Int)) && !decide (6 < (p.files.length : Int))))))))))
def refF (p : Pr) : Bool := (List.range p.files.length).all fun i => !fileT p.files i
def refR (p : Pr) : Bool := (List.range p.rules.length).all fun i => !ruleT p i
/-- Whether a program may be, as the document has it. -/
def refB (p : Pr) : Bool := refH p && (refF p && (refR p && (strataB p && endsB p)))
theorem rng_get {n : Nat} {T : Nat → Bool} (h : ((List.range n).all fun i => !T i) = true) (i : Nat) (hi : i < n) : T i = false := by
  have := List.all_eq_true.1 h i (List.mem_range.2 hi)
  simpa using this
theorem mem_getD {α : Type} [Inhabited α] {l : List α} {x : α} (h : x ∈ l) : ∃ i, i < l.length ∧ l.getD i default = x := by
  obtain ⟨i, hi, e⟩ := List.getElem_of_mem h
  exact ⟨i, hi, by rw [List.getD_eq_getElem?_getD, List.getElem?_eq_getElem hi]; exact e⟩
theorem flags_of {p : Pr} (h1 : refH p = true) (h2 : refR p = true) : Flags p := by
  unfold refH at h1
  simp only [Bool.and_eq_true, Bool.not_eq_true', decide_eq_false_iff_not] at h1
  obtain ⟨a1, a2, a3, a4, _⟩ := h1
  have hr : ∀ r ∈ p.rules, ruleB p r = true := fun r hr => by
    obtain ⟨i, hi, rfl⟩ := mem_getD hr
    have := rng_get h2 i hi
    unfold ruleT at this
    rw [Bool.or_eq_false_iff] at this
    simpa using this.1
  refine ⟨by omega, by omega, by omega, by omega, fun r hm t ht => ?_, fun r hm t ht => ?_⟩
  · have := hr r hm
    unfold ruleB at this
    simp only [Bool.and_eq_true, List.all_eq_true] at this
    have := this.1.2 t ht
    exact inB_iff.1 this
  · have := hr r hm
    unfold ruleB at this
    simp only [Bool.and_eq_true, List.all_eq_true] at this
    have := this.1.1.2 t ht
    exact inB_iff.1 this
section
variable {X : Ext}
theorem c8 : Go.Proofs.Try.f8.body = some (subC (fnCode PP 8) []) := by kernel_rfl
theorem i0 : subC (fnCode PP 8) [] = .seq (subC (fnCode PP 8) [0]) (subC (fnCode PP 8) [1]) := by kernel_rfl
theorem i1 : subC (fnCode PP 8) [1] = .seq (subC (fnCode PP 8) [1, 0]) (subC (fnCode PP 8) [1, 1]) := by kernel_rfl
theorem i10 : subC (fnCode PP 8) [1, 0] = .seq (subC (fnCode PP 8) [1, 0, 0]) (subC (fnCode PP 8) [1, 0, 1]) := by kernel_rfl
theorem i11 : subC (fnCode PP 8) [1, 1] = .seq (subC (fnCode PP 8) [1, 1, 0]) (subC (fnCode PP 8) [1, 1, 1]) := by kernel_rfl
theorem i110 : subC (fnCode PP 8) [1, 1, 0] = .seq (subC (fnCode PP 8) [1, 1, 0, 0]) (subC (fnCode PP 8) [1, 1, 0, 1]) := by kernel_rfl
theorem i111 : subC (fnCode PP 8) [1, 1, 1] = .seq (subC (fnCode PP 8) [1, 1, 1, 0]) (subC (fnCode PP 8) [1, 1, 1, 1]) := by kernel_rfl
theorem i1110 : subC (fnCode PP 8) [1, 1, 1, 0] = .seq (subC (fnCode PP 8) [1, 1, 1, 0, 0]) (subC (fnCode PP 8) [1, 1, 1, 0, 1]) := by kernel_rfl
theorem i1111 : subC (fnCode PP 8) [1, 1, 1, 1] = .seq (subC (fnCode PP 8) [1, 1, 1, 1, 0]) (subC (fnCode PP 8) [1, 1, 1, 1, 1]) := by kernel_rfl
theorem il0 : subC (fnCode PP 8) [1, 1, 0, 1] = .block 0 (.loop (subC (fnCode PP 8) [1, 1, 0, 1, 0, 0])) := by kernel_rfl
theorem il2 : subC (fnCode PP 8) [1, 1, 1, 0, 1] = .block 2 (.loop (subC (fnCode PP 8) [1, 1, 1, 0, 1, 0, 0])) := by kernel_rfl
theorem j0 (call : Nat → List HV → Option HV) (ext : Ext2) (k : Nat) (p : Pr) :
    (evC2 (CC call ext k) (kp2 8) 0 k (subC (fnCode PP 8) [0]) Out2 (sl 0 121 [(0, .agg (ePr p))]) [] fin2) =
    some (Ex.normal, (sl 0 121 [(1, HV.var 0 0)]), [Ob.cel [HV.int IntKind.i64 p.flags, HV.int IntKind.i64 p.lasting, encL 1 I64 p.first, encL 1 I64 p.over, HV.int IntKind.i64 p.from_, encL 1 eStr p.files, encL 4 eRule p.rules, encL 3 eCounter p.counters, encL 4 eUser p.users, encL 7 eItem p.notes]]) := by kernel_rfl
theorem j1 (call : Nat → List HV → Option HV) (ext : Ext2) (k : Nat) (p : Pr) :
    (evC2 (CC call ext k) (kp2 8) 0 k (subC (fnCode PP 8) [1, 0]) Out2 (sl 0 121 [(1, .var 0 0)]) [.cel (ePr p)] fin2) =
    br (decide (p.flags < 0)) (some (Ex.ret, (sl 0 121 [(2, HV.bool false)]), [Ob.cel (ePr p)]))
  (br (decide (800 < p.flags)) (some (Ex.ret, (sl 0 121 [(2, HV.bool false)]), [Ob.cel (ePr p)]))
    (br (decide (p.lasting < 0)) (some (Ex.ret, (sl 0 121 [(2, HV.bool false)]), [Ob.cel (ePr p)]))
      (br (decide (p.flags < p.lasting)) (some (Ex.ret, (sl 0 121 [(2, HV.bool false)]), [Ob.cel (ePr p)]))
        (bndB ((CC call ext k).call 23 [HV.lst 1 p.first.length fun i => [HV.int IntKind.i64 (p.first.getD i default)], HV.int IntKind.i64 p.lasting]) fun b =>
          br (!b) (some (Ex.ret, (sl 0 121 [(2, HV.bool false)]), [Ob.cel (ePr p)]))
            (bndB ((CC call ext k).call 23 [HV.lst 1 p.over.length fun i => [HV.int IntKind.i64 (p.over.getD i default)], HV.int IntKind.i64 p.lasting]) fun b =>
              br (!b) (some (Ex.ret, (sl 0 121 [(2, HV.bool false)]), [Ob.cel (ePr p)]))
                (br (decide (p.from_ < 1)) (some (Ex.ret, (sl 0 121 [(2, HV.bool false)]), [Ob.cel (ePr p)]))
                  (br (decide (20 < p.from_)) (some (Ex.ret, (sl 0 121 [(2, HV.bool false)]), [Ob.cel (ePr p)]))
                    (br (decide (1500 < (↑p.rules.length : Int))) (some (Ex.ret, (sl 0 121 [(2, HV.bool false)]), [Ob.cel (ePr p)])) (br (decide (6 < (↑p.files.length : Int))) (some (Ex.ret, (sl 0 121 [(2, HV.bool false)]), [Ob.cel (ePr p)])) (some (Ex.normal, (sl 0 121 [(1, HV.var 0 0), (62, HV.bool (decide (6 < (↑p.files.length : Int))))]), [Ob.cel (ePr p)]))))))))))) := by kernel_rfl
theorem j2 (call : Nat → List HV → Option HV) (ext : Ext2) (k : Nat) (p : Pr) (v : HV) :
    (evC2 (CC call ext k) (kp2 8) 0 k (subC (fnCode PP 8) [1, 1, 0, 0]) Out2 (sl 0 121 [(1, .var 0 0), (62, v)]) [.cel (ePr p)] fin2) =
    some (Ex.normal, (sl 0 121 [(1, HV.var 0 0), (3, HV.int IntKind.i64 (0))]), [Ob.cel (ePr p)]) := by kernel_rfl
theorem j3 (call : Nat → List HV → Option HV) (ext : Ext2) (k : Nat) (p : Pr) (i : Nat) :
    (evC2 (CC call ext k) (kp2 8) 0 k (subC (fnCode PP 8) [1, 1, 0, 1, 0, 0]) Out2 (sl 0 121 [(1, .var 0 0), (3, .int .i64 i)]) [.cel (ePr p)] (rnd 0)) =
    br (decide ((↑i : Int) < (↑p.files.length : Int))) (br (decide (0 ≤ (↑i : Int) ∧ (↑i : Int) ≤ (↑p.files.length : Int))) (br (decide (0 ≤ (↑i : Int) ∧ (↑i : Int) < (↑p.files.length : Int))) (bndB ((CC call ext k).call 24 [HV.lst 1 (i - 0) (cutF (i - 0) 0 (fun i => eStr (p.files.getD i default)) [HV.str ByteArray.empty]), HV.str (p.files.getD i default)]) fun b => br b (some (Ex.ret, (sl 0 121 [(2, HV.bool false)]), [Ob.cel (ePr p), Ob.free, Ob.free, Ob.free, Ob.free, Ob.free, Ob.free, Ob.free, Ob.free, Ob.free, Ob.free])) (some (Ex.normal, (sl 0 121 [(1, HV.var 0 0), (3, HV.int IntKind.i64 (IntKind.i64.wrap ((↑i : Int) + 1)))]), [Ob.cel [HV.int IntKind.i64 p.flags, HV.int IntKind.i64 p.lasting, HV.lst 1 p.first.length fun i => [HV.int IntKind.i64 (p.first.getD i default)], HV.lst 1 p.over.length fun i => [HV.int IntKind.i64 (p.over.getD i default)], HV.int IntKind.i64 p.from_, HV.lst 1 p.files.length fun i => eStr (p.files.getD i default), HV.lst 4 p.rules.length fun i => eRule (p.rules.getD i default), HV.lst 3 p.counters.length fun i => eCounter (p.counters.getD i default), HV.lst 4 p.users.length fun i => eUser (p.users.getD i default), HV.lst 7 p.notes.length fun i => eItem (p.notes.getD i default)]]))) none) none)
  (some (Ex.exit 0, (sl 0 121 [(1, HV.var 0 0), (3, HV.int IntKind.i64 (↑i : Int)), (67, HV.bool (decide ((↑i : Int) < (↑p.files.length : Int))))]), [Ob.cel (ePr p)])) := by kernel_rfl
theorem j4 (call : Nat → List HV → Option HV) (ext : Ext2) (k : Nat) (p : Pr) (i : Nat) (v : HV) :
    (evC2 (CC call ext k) (kp2 8) 0 k (subC (fnCode PP 8) [1, 1, 1, 0, 0]) Out2 (sl 0 121 [(1, .var 0 0), (3, .int .i64 i), (67, v)]) [.cel (ePr p)] fin2) =
    some (Ex.normal, (sl 0 121 [(1, HV.var 0 0), (4, HV.int IntKind.i64 (0))]), [Ob.cel (ePr p)]) := by kernel_rfl
theorem j5 (call : Nat → List HV → Option HV) (ext : Ext2) (k : Nat) (p : Pr) (i : Nat) :
    (evC2 (CC call ext k) (kp2 8) 0 k (subC (fnCode PP 8) [1, 1, 1, 0, 1, 0, 0]) Out2 (sl 0 121 [(1, .var 0 0), (4, .int .i64 i)]) [.cel (ePr p)] (rnd 0)) =
    br (decide ((↑i : Int) < (↑p.rules.length : Int)))
  (br (decide (0 ≤ (↑i : Int) ∧ (↑i : Int) < (↑p.rules.length : Int)))
    (bndB ((CC call ext k).call 25 [HV.agg [HV.int IntKind.i64 p.flags, HV.int IntKind.i64 p.lasting, encL 1 I64 p.first, encL 1 I64 p.over, HV.int IntKind.i64 p.from_, encL 1 eStr p.files, encL 4 eRule p.rules, encL 3 eCounter p.counters, encL 4 eUser p.users, encL 7 eItem p.notes], HV.agg [HV.int IntKind.i64 (p.rules.getD i default).stratum, encL 2 eLit (p.rules.getD i default).ifs, encL 3 eCond (p.rules.getD i default).conds, encL 2 eSet (p.rules.getD i default).thens]]) fun b =>
      br (!b) (some (Ex.ret, (sl 0 121 [(2, HV.bool false)]), [Ob.cel (ePr p), Ob.free, Ob.free, Ob.free, Ob.free, Ob.free, Ob.free, Ob.free, Ob.free, Ob.free, Ob.free, Ob.free, Ob.free, Ob.free, Ob.free, Ob.free, Ob.free, Ob.free, Ob.free, Ob.free, Ob.free, Ob.free, Ob.free, Ob.free, Ob.free, Ob.free, Ob.free, Ob.free, Ob.free]))
        (br (decide (0 < (↑i : Int))) (br (decide (0 ≤ IntKind.i64.wrap ((↑i : Int) - 1) ∧ IntKind.i64.wrap ((↑i : Int) - 1) < (↑p.rules.length : Int))) (br (decide (0 ≤ (↑i : Int) ∧ (↑i : Int) < (↑p.rules.length : Int))) (br (decide ((p.rules.getD i default).stratum < (p.rules.getD (IntKind.i64.wrap ((↑i : Int) - 1)).toNat default).stratum)) (some (Ex.ret, (sl 0 121 [(2, HV.bool false)]), [Ob.cel (ePr p), Ob.free, Ob.free, Ob.free, Ob.free, Ob.free, Ob.free, Ob.free, Ob.free, Ob.free, Ob.free, Ob.free, Ob.free, Ob.free, Ob.free, Ob.free, Ob.free, Ob.free, Ob.free, Ob.free, Ob.free, Ob.free, Ob.free, Ob.free, Ob.free, Ob.free, Ob.free, Ob.free, Ob.free])) (some (Ex.normal, (sl 0 121 [(1, HV.var 0 0), (4, HV.int IntKind.i64 (IntKind.i64.wrap ((↑i : Int) + 1)))]), [Ob.cel [HV.int IntKind.i64 p.flags, HV.int IntKind.i64 p.lasting, HV.lst 1 p.first.length fun i => [HV.int IntKind.i64 (p.first.getD i default)], HV.lst 1 p.over.length fun i => [HV.int IntKind.i64 (p.over.getD i default)], HV.int IntKind.i64 p.from_, HV.lst 1 p.files.length fun i => eStr (p.files.getD i default), HV.lst 4 p.rules.length fun i => eRule (p.rules.getD i default), HV.lst 3 p.counters.length fun i => eCounter (p.counters.getD i default), HV.lst 4 p.users.length fun i => eUser (p.users.getD i default), HV.lst 7 p.notes.length fun i => eItem (p.notes.getD i default)]]))) none) none)
          (some (Ex.normal, (sl 0 121 [(1, HV.var 0 0), (4, HV.int IntKind.i64 (IntKind.i64.wrap ((↑i : Int) + 1)))]), [Ob.cel [HV.int IntKind.i64 p.flags, HV.int IntKind.i64 p.lasting, HV.lst 1 p.first.length fun i => [HV.int IntKind.i64 (p.first.getD i default)], HV.lst 1 p.over.length fun i => [HV.int IntKind.i64 (p.over.getD i default)], HV.int IntKind.i64 p.from_, HV.lst 1 p.files.length fun i => eStr (p.files.getD i default), HV.lst 4 p.rules.length fun i => eRule (p.rules.getD i default), HV.lst 3 p.counters.length fun i => eCounter (p.counters.getD i default), HV.lst 4 p.users.length fun i => eUser (p.users.getD i default), HV.lst 7 p.notes.length fun i => eItem (p.notes.getD i default)]]))))
    none)
  (some (Ex.exit 2, (sl 0 121 [(1, HV.var 0 0), (4, HV.int IntKind.i64 (↑i : Int)), (84, HV.bool (decide ((↑i : Int) < (↑p.rules.length : Int))))]), [Ob.cel (ePr p)])) := by kernel_rfl
theorem j6 (call : Nat → List HV → Option HV) (ext : Ext2) (k : Nat) (p : Pr) (i : Nat) (v : HV) :
    (evC2 (CC call ext k) (kp2 8) 0 k (subC (fnCode PP 8) [1, 1, 1, 1, 0]) Out2 (sl 0 121 [(1, .var 0 0), (4, .int .i64 i), (84, v)]) [.cel (ePr p)] fin2) =
    bndB ((CC call ext k).call 26 [HV.agg [HV.int IntKind.i64 p.flags, HV.int IntKind.i64 p.lasting, encL 1 I64 p.first, encL 1 I64 p.over, HV.int IntKind.i64 p.from_, encL 1 eStr p.files, encL 4 eRule p.rules, encL 3 eCounter p.counters, encL 4 eUser p.users, encL 7 eItem p.notes]]) fun b => br b (bndB ((CC call ext k).call 27 [HV.agg [HV.int IntKind.i64 p.flags, HV.int IntKind.i64 p.lasting, encL 1 I64 p.first, encL 1 I64 p.over, HV.int IntKind.i64 p.from_, encL 1 eStr p.files, encL 4 eRule p.rules, encL 3 eCounter p.counters, encL 4 eUser p.users, encL 7 eItem p.notes]]) fun b => some (Ex.normal, (sl 0 121 [(2, HV.bool b)]), [Ob.cel (ePr p)])) (some (Ex.normal, (sl 0 121 [(2, HV.bool false)]), [Ob.cel (ePr p)])) := by kernel_rfl
theorem f24c (hX : Xok X) {k : Nat} (hk : BB + 2 ≤ k) (l : List ByteArray) (hl : Len l) (s : ByteArray) (i : Nat) (hi : i ≤ l.length) : callP PP X FF k 24 [HV.lst 1 (i - 0) (cutF (i - 0) 0 (fun i => eStr (l.getD i default)) [HV.str ByteArray.empty]), .str s] = some (.bool ((l.take i).any fun y => decide (y = s))) := by
  have e := cut_encL 1 eStr l 0 i hi
  rw [List.drop_zero] at e
  have hl2 : Len (l.take i) := by unfold Len at *; simp; omega
  exact (congrArg (fun z => callP PP X FF k 24 [z, .str s]) e).trans (f24 hX (by omega) (l.take i) hl2 s)
variable {ext : Ext2}
theorem f8 (hX : Xok X) {k : Nat} {k2 : Nat} (hx : ext 8 = none) (hk : BB + 4 ≤ k) (hk2 : BB + 6 ≤ k2) (p : Pr) (hp : OkPr p)
    (h26 : Flags p → callP PP X FF k2 26 [.agg (ePr p)] = some (.bool (strataB p))) (h27 : callP PP X FF k2 27 [.agg (ePr p)] = some (.bool (endsB p))) : closedR (callX EE (callP PP X FF k2) ext k 8 [.agg (ePr p)] []) = some (.bool (refB p)) := by
  obtain ⟨k, rfl, hk⟩ := fuel_pos hk
  suffices hs : callX EE (callP PP X FF k2) ext (k + 1) 8 [.agg (ePr p)] [] = some (.bool (refB p), []) by rw [hs]; rfl
  rw [callX_eq hx rfl Go.Proofs.Try.func8]
  have hl1 := hp.files
  have hl2 := hp.rules
  unfold Len at hl1 hl2
  have hres : ∀ (b : Bool) (st : List Ob), retX PP 0 Go.Proofs.Try.f8.results.toList (sl 0 121 [(2, .bool b)]) st = some (.bool b, []) := fun b st => by kernel_rfl
  refine Giv.eq ?_
  refine Giv.bodyX (C := CC (callP PP X FF k2) ext k) (kp := kp2 8) c8 ?_
  refine Giv.seqE i0 (j0 _ ext k p) ?_
  refine Giv.seqX i1 (Q1 := fun o => (refH p = false ∧ o.1 = .ret ∧ ∃ st, o.2 = ((sl 0 121 [(2, .bool false)]), st)) ∨ (refH p = true ∧ ∃ v, o = (.normal, (sl 0 121 [(1, .var 0 0), (62, v)]), [.cel (ePr p)]))) ?_ ?_ ?_
  · refine Giv.of_eq (j1 _ ext k p) ?_
    refine Giv.p (fun h1 => ?_) (fun h1 => ?_)
    · exact Giv.ok (.inl ⟨by unfold refH; rw [decide_eq_true h1]; rfl, rfl, _, rfl⟩)
    refine Giv.p (fun h2 => ?_) (fun h2 => ?_)
    · exact Giv.ok (.inl ⟨by unfold refH; rw [decide_eq_false h1, decide_eq_true h2]; rfl, rfl, _, rfl⟩)
    refine Giv.p (fun h3 => ?_) (fun h3 => ?_)
    · exact Giv.ok (.inl ⟨by unfold refH; rw [decide_eq_false h1, decide_eq_false h2, decide_eq_true h3]; rfl, rfl, _, rfl⟩)
    refine Giv.p (fun h4 => ?_) (fun h4 => ?_)
    · exact Giv.ok (.inl ⟨by unfold refH; rw [decide_eq_false h1, decide_eq_false h2, decide_eq_false h3, decide_eq_true h4]; rfl, rfl, _, rfl⟩)
    refine Giv.B (f23 (k := k2) hX (by omega) p.first hp.first _) ?_
    refine Giv.b (fun h5 => ?_) (fun h5 => ?_)
    · exact Giv.ok (.inl ⟨by unfold refH; rw [decide_eq_false h1, decide_eq_false h2, decide_eq_false h3, decide_eq_false h4, (by simpa using h5 : risB p.first p.lasting = false)]; rfl, rfl, _, rfl⟩)
    refine Giv.B (f23 (k := k2) hX (by omega) p.over hp.over _) ?_
    have h5 : risB p.first p.lasting = true := by simpa using h5
    refine Giv.b (fun h6 => ?_) (fun h6 => ?_)
    · exact Giv.ok (.inl ⟨by unfold refH; rw [decide_eq_false h1, decide_eq_false h2, decide_eq_false h3, decide_eq_false h4, h5, (by simpa using h6 : risB p.over p.lasting = false)]; rfl, rfl, _, rfl⟩)
    have h6 : risB p.over p.lasting = true := by simpa using h6
    refine Giv.p (fun h7 => ?_) (fun h7 => ?_)
    · exact Giv.ok (.inl ⟨by unfold refH; rw [decide_eq_false h1, decide_eq_false h2, decide_eq_false h3, decide_eq_false h4, h5, h6, decide_eq_true h7]; rfl, rfl, _, rfl⟩)
    refine Giv.p (fun h8 => ?_) (fun h8 => ?_)
    · exact Giv.ok (.inl ⟨by unfold refH; rw [decide_eq_false h1, decide_eq_false h2, decide_eq_false h3, decide_eq_false h4, h5, h6, decide_eq_false h7, decide_eq_true h8]; rfl, rfl, _, rfl⟩)
    refine Giv.p (fun h9 => ?_) (fun h9 => ?_)
    · exact Giv.ok (.inl ⟨by unfold refH; rw [decide_eq_false h1, decide_eq_false h2, decide_eq_false h3, decide_eq_false h4, h5, h6, decide_eq_false h7, decide_eq_false h8, decide_eq_true h9]; rfl, rfl, _, rfl⟩)
    refine Giv.p (fun h10 => ?_) (fun h10 => ?_)
    · exact Giv.ok (.inl ⟨by unfold refH; rw [decide_eq_false h1, decide_eq_false h2, decide_eq_false h3, decide_eq_false h4, h5, h6, decide_eq_false h7, decide_eq_false h8, decide_eq_false h9, decide_eq_true h10]; rfl, rfl, _, rfl⟩)
    · exact Giv.ok (.inr ⟨by unfold refH; rw [decide_eq_false h1, decide_eq_false h2, decide_eq_false h3, decide_eq_false h4, h5, h6, decide_eq_false h7, decide_eq_false h8, decide_eq_false h9, decide_eq_false h10]; rfl, _, rfl⟩)
  rotate_left
  · rintro x e st hx0 (⟨h1, hx, s, h⟩ | ⟨_, v, h⟩)
    · have hx : x = .ret := hx
      subst hx
      injection h with he hs; subst he hs
      refine Giv.of_eq (hres false _) (Giv.ok ?_)
      unfold refB
      rw [h1]; rfl
    · exact absurd (congrArg Prod.fst h) hx0
  rintro e st (⟨_, h, _⟩ | ⟨hH, v, h⟩)
  · cases h
  injection h with _ h; injection h with he hs; subst he hs
  refine Giv.sq i11 ?_
  refine Giv.seqE i110 (j2 _ ext k p v) ?_
  refine Giv.scan3 il0 (E := fun i => (sl 0 121 [(1, .var 0 0), (3, .int .i64 i)])) (st0 := [.cel (ePr p)]) p.files.length (fileT p.files) (by kernel_rfl) (by unfold BB at hk; omega) (fun i o => o.1 = .ret ∧ ∃ st, o.2 = ((sl 0 121 [(2, .bool false)]), st)) (fun o => o.1 = .exit 0 ∧ ∃ v, o.2 = ((sl 0 121 [(1, .var 0 0), (3, .int .i64 p.files.length), (67, v)]), [.cel (ePr p)])) ?_ ?_ ?_ ?_
  · intro i hi
    have hw : IntKind.i64.wrap ((i : Int) + 1) = ((i + 1 : Nat) : Int) := by rw [wrap64 (by omega) (by omega)]; rfl
    refine Giv.of_eq (j3 _ ext k p i) ?_
    refine Giv.t (by omega) ?_
    refine Giv.t (by omega) ?_
    refine Giv.t (by omega) ?_
    refine Giv.B (f24c (k := k2) hX (by omega) p.files hp.files _ i (by omega)) ?_
    refine Giv.b (fun h1 => ?_) (fun h1 => ?_)
    · exact Giv.ok (.inr ⟨h1, (by intro h; cases h), rfl, _, rfl⟩)
    · refine Giv.ok (.inl ⟨h1, ?_⟩)
      rw [hw]; rfl
  · refine Giv.of_eq (j3 _ ext k p _) ?_
    refine Giv.p (fun h => absurd h (by omega)) (fun _ => ?_)
    exact Giv.ok ⟨(by intro h; cases h), rfl, _, rfl⟩
  · rintro i x e st hi hT _ ⟨hx, st', h⟩
    have hx : x = .ret := hx
    subst hx
    injection h with he hs; subst he hs
    refine Giv.of_eq (hres false _) (Giv.ok ?_)
    unfold refB refF
    rw [hH, rng_not hi hT]; rfl
  · rintro x e st hall ⟨hx, v, h⟩
    have hx : x = .exit 0 := hx
    subst hx
    injection h with he hs; subst he hs
    have hF : refF p = true := rng_of hall
    show Giv (evC2 _ _ _ _ (subC (fnCode PP 8) [1, 1, 1]) _ _ _ _) _
    refine Giv.sq i111 ?_
    refine Giv.seqE i1110 (j4 _ ext k p _ v) ?_
    refine Giv.scan3 il2 (E := fun i => (sl 0 121 [(1, .var 0 0), (4, .int .i64 i)])) (st0 := [.cel (ePr p)]) p.rules.length (ruleT p) (by kernel_rfl) (by unfold BB at hk; omega) (fun i o => o.1 = .ret ∧ ∃ st, o.2 = ((sl 0 121 [(2, .bool false)]), st)) (fun o => o.1 = .exit 2 ∧ ∃ v, o.2 = ((sl 0 121 [(1, .var 0 0), (4, .int .i64 p.rules.length), (84, v)]), [.cel (ePr p)])) ?_ ?_ ?_ ?_
    · intro i hi
      have hw : IntKind.i64.wrap ((i : Int) + 1) = ((i + 1 : Nat) : Int) := by rw [wrap64 (by omega) (by omega)]; rfl
      refine Giv.of_eq (j5 _ ext k p i) ?_
      refine Giv.t (by omega) ?_
      refine Giv.t (by omega) ?_
      refine Giv.B (f25 (k := k2) hX (by omega) p hp _ (hp.rule _ (getD_mem' hi))) ?_
      refine Giv.b (fun h1 => ?_) (fun h1 => ?_)
      · exact Giv.ok (.inr ⟨by unfold ruleT; rw [h1]; rfl, (by intro h; cases h), rfl, _, rfl⟩)
      refine Giv.p (fun h2 => ?_) (fun h2 => ?_)
      · have h2' : 0 < i := by omega
        rw [wrap64 (x := (i : Int) - 1) (by omega) (by omega), show ((i : Int) - 1).toNat = i - 1 by omega]
        refine Giv.t (by omega) ?_
        refine Giv.t (by omega) ?_
        refine Giv.p (fun h3 => ?_) (fun h3 => ?_)
        · exact Giv.ok (.inr ⟨by unfold ruleT; rw [h1, decide_eq_true h2', decide_eq_true h3]; rfl, (by intro h; cases h), rfl, _, rfl⟩)
        · refine Giv.ok (.inl ⟨by unfold ruleT; rw [h1, decide_eq_true h2', decide_eq_false h3]; rfl, ?_⟩)
          rw [hw]; rfl
      · have h2' : ¬ 0 < i := by omega
        refine Giv.ok (.inl ⟨by unfold ruleT; rw [h1, decide_eq_false h2']; rfl, ?_⟩)
        rw [hw]; rfl
    · refine Giv.of_eq (j5 _ ext k p _) ?_
      refine Giv.p (fun h => absurd h (by omega)) (fun _ => ?_)
      exact Giv.ok ⟨(by intro h; cases h), rfl, _, rfl⟩
    · rintro i x e st hi hT _ ⟨hx, st', h⟩
      have hx : x = .ret := hx
      subst hx
      injection h with he hs; subst he hs
      refine Giv.of_eq (hres false _) (Giv.ok ?_)
      unfold refB refR
      rw [hH, hF, rng_not hi hT]; rfl
    · rintro x e st hall ⟨hx, v, h⟩
      have hx : x = .exit 2 := hx
      subst hx
      injection h with he hs; subst he hs
      have hR : refR p = true := rng_of hall
      show Giv (evC2 _ _ _ _ (subC (fnCode PP 8) [1, 1, 1, 1]) _ _ _ _) _
      refine Giv.seqX i1111 (Q1 := fun o => o = (.normal, (sl 0 121 [(2, .bool (strataB p && endsB p))]), [.cel (ePr p)])) ?_ ?_ (fun x e st h1 h2 => absurd (congrArg Prod.fst h2) h1)
      · refine Giv.of_eq (j6 _ ext k p _ v) ?_
        refine Giv.B (h26 (flags_of hH hR)) ?_
        cases strataB p with
        | false => exact Giv.ff rfl (Giv.ok rfl)
        | true =>
          refine Giv.tt rfl ?_
          exact Giv.B h27 (Giv.ok rfl)
      intro e st h
      injection h with _ h; injection h with he hs; subst he hs
      refine Giv.of_eq (hres _ _) (Giv.ok ?_)
      unfold refB
      rw [hH, hF, hR]; rfl
end
theorem g26 {k : Nat} (hk : BB + 6 ≤ k) (p : Pr) (hp : OkPr p) (hf : Flags p) : callP PP XE FF k 26 [.agg (ePr p)] = some (.bool (strataB p)) := by
  obtain ⟨k, rfl, hk⟩ := fuel_pos hk
  exact call_of rfl (by rw [f26 (call := callP PP XE FF k) (ext := sortExt 72 73 3) rfl (by omega) p hp hf]; rfl)
theorem g27 {k : Nat} (hk : BB + 6 ≤ k) (p : Pr) (hp : OkPr p) : callP PP XE FF k 27 [.agg (ePr p)] = some (.bool (endsB p)) := by
  obtain ⟨k, rfl, hk⟩ := fuel_pos hk
  exact call_of rfl (f27 hXE rfl (by omega) (by omega) p hp)
theorem g8 {k : Nat} (hk : BB + 8 ≤ k) (p : Pr) (hp : OkPr p) : callP PP XE FF k 8 [.agg (ePr p)] = some (.bool (refB p)) := by
  obtain ⟨k, rfl, hk⟩ := fuel_pos hk
  exact call_of rfl (f8 hXE rfl (by omega) (by omega) p hp (fun h => g26 (by omega) p hp h) (g27 (by omega) p hp))
end Go.Rul
end

section
namespace Go.Rul
open Go.Eng
set_option maxRecDepth 100000
set_option linter.unusedVariables false

def diffT (a b : List Int) (i : Nat) : Bool := !decide (a.getD i default = b.getD i default)
theorem eq_of_diff {a b : List Int} (h : a.length = b.length) (hd : ∀ j, j < a.length → diffT a b j = false) : a = b := by
  apply List.ext_getElem h
  intro i h1 h2
  have := hd i h1
  unfold diffT at this
  simp only [Bool.not_eq_false', decide_eq_true_eq] at this
  rwa [List.getD_eq_getElem?_getD, List.getD_eq_getElem?_getD, List.getElem?_eq_getElem h1, List.getElem?_eq_getElem h2] at this
section
variable {X : Ext}
theorem c7 : Go.Proofs.Try.f7.body = some (subC (fnCode PP 7) []) := by kernel_rfl
theorem o0 : subC (fnCode PP 7) [] = .seq (subC (fnCode PP 7) [0]) (subC (fnCode PP 7) [1]) := by kernel_rfl
theorem o1 : subC (fnCode PP 7) [1] = .seq (subC (fnCode PP 7) [1, 0]) (subC (fnCode PP 7) [1, 1]) := by kernel_rfl
theorem o11 : subC (fnCode PP 7) [1, 1] = .seq (subC (fnCode PP 7) [1, 1, 0]) (subC (fnCode PP 7) [1, 1, 1]) := by kernel_rfl
theorem o110 : subC (fnCode PP 7) [1, 1, 0] = .seq (subC (fnCode PP 7) [1, 1, 0, 0]) (subC (fnCode PP 7) [1, 1, 0, 1]) := by kernel_rfl
theorem o111 : subC (fnCode PP 7) [1, 1, 1] = .seq (subC (fnCode PP 7) [1, 1, 1, 0]) (subC (fnCode PP 7) [1, 1, 1, 1]) := by kernel_rfl
theorem o1110 : subC (fnCode PP 7) [1, 1, 1, 0] = .seq (subC (fnCode PP 7) [1, 1, 1, 0, 0]) (subC (fnCode PP 7) [1, 1, 1, 0, 1]) := by kernel_rfl
theorem o1111 : subC (fnCode PP 7) [1, 1, 1, 1] = .seq (subC (fnCode PP 7) [1, 1, 1, 1, 0]) (subC (fnCode PP 7) [1, 1, 1, 1, 1]) := by kernel_rfl
theorem ol0 : subC (fnCode PP 7) [1, 1, 0, 1] = .block 0 (.loop (subC (fnCode PP 7) [1, 1, 0, 1, 0, 0])) := by kernel_rfl
theorem ol2 : subC (fnCode PP 7) [1, 1, 1, 0, 1] = .block 2 (.loop (subC (fnCode PP 7) [1, 1, 1, 0, 1, 0, 0])) := by kernel_rfl
theorem t0 (call : Nat → List HV → Option HV) (ext : Ext2) (k : Nat) (p : Pr) :
    (evC2 (CC call ext k) (kp2 7) 0 k (subC (fnCode PP 7) [0]) Out2 (sl 0 96 [(0, .agg (ePr p))]) [] fin2) =
    some (Ex.normal, (sl 0 96 [(1, HV.var 0 0)]), [Ob.cel [HV.int IntKind.i64 p.flags, HV.int IntKind.i64 p.lasting, encL 1 I64 p.first, encL 1 I64 p.over, HV.int IntKind.i64 p.from_, encL 1 eStr p.files, encL 4 eRule p.rules, encL 3 eCounter p.counters, encL 4 eUser p.users, encL 7 eItem p.notes]]) := by kernel_rfl
theorem t1 (call : Nat → List HV → Option HV) (ext : Ext2) (k : Nat) (p : Pr) :
    (evC2 (CC call ext k) (kp2 7) 0 k (subC (fnCode PP 7) [1, 0]) Out2 (sl 0 96 [(1, .var 0 0)]) [.cel (ePr p)] fin2) =
    some (Ex.normal, (sl 0 96 [(1, HV.var 0 0), (3, HV.int IntKind.i64 (IntKind.i64.wrap (IntKind.i64.wrap (IntKind.i64.wrap (IntKind.i64.wrap (IntKind.i64.wrap (IntKind.i64.wrap ((↑p.first.length : Int) + (↑p.over.length : Int)) + (↑p.files.length : Int)) + (↑p.rules.length : Int)) + (↑p.counters.length : Int)) + (↑p.users.length : Int)) + (↑p.notes.length : Int))))]), [Ob.cel (ePr p)]) := by kernel_rfl
theorem t2 (call : Nat → List HV → Option HV) (ext : Ext2) (k : Nat) (p : Pr) (n : Int) :
    (evC2 (CC call ext k) (kp2 7) 0 k (subC (fnCode PP 7) [1, 1, 0, 0]) Out2 (sl 0 96 [(1, .var 0 0), (3, .int .i64 n)]) [.cel (ePr p)] fin2) =
    some (Ex.normal, (sl 0 96 [(1, HV.var 0 0), (3, HV.int IntKind.i64 n), (4, HV.int IntKind.i64 (0))]), [Ob.cel (ePr p)]) := by kernel_rfl
theorem t3 (call : Nat → List HV → Option HV) (ext : Ext2) (k : Nat) (p : Pr) (n : Int) (i : Nat) :
    (evC2 (CC call ext k) (kp2 7) 0 k (subC (fnCode PP 7) [1, 1, 0, 1, 0, 0]) Out2 (sl 0 96 [(1, .var 0 0), (3, .int .i64 n), (4, .int .i64 i)]) [.cel (ePr p)] (rnd 0)) =
    br (decide ((↑i : Int) < (↑p.rules.length : Int))) (br (decide (n < 2500)) (br (decide (0 ≤ (↑i : Int) ∧ (↑i : Int) < (↑p.rules.length : Int))) (br (decide (0 ≤ (↑i : Int) ∧ (↑i : Int) < (↑p.rules.length : Int))) (br (decide (0 ≤ (↑i : Int) ∧ (↑i : Int) < (↑p.rules.length : Int))) (some (Ex.normal, (sl 0 96 [(1, HV.var 0 0), (3, HV.int IntKind.i64 (IntKind.i64.wrap (IntKind.i64.wrap (IntKind.i64.wrap (n + (↑(p.rules.getD i default).ifs.length : Int)) + (↑(p.rules.getD i default).conds.length : Int)) + (↑(p.rules.getD i default).thens.length : Int)))), (4, HV.int IntKind.i64 (IntKind.i64.wrap ((↑i : Int) + 1)))]), [Ob.cel [HV.int IntKind.i64 p.flags, HV.int IntKind.i64 p.lasting, HV.lst 1 p.first.length fun i => [HV.int IntKind.i64 (p.first.getD i default)], HV.lst 1 p.over.length fun i => [HV.int IntKind.i64 (p.over.getD i default)], HV.int IntKind.i64 p.from_, HV.lst 1 p.files.length fun i => eStr (p.files.getD i default), HV.lst 4 p.rules.length fun i => eRule (p.rules.getD i default), HV.lst 3 p.counters.length fun i => eCounter (p.counters.getD i default), HV.lst 4 p.users.length fun i => eUser (p.users.getD i default), HV.lst 7 p.notes.length fun i => eItem (p.notes.getD i default)]])) none) none) none) (some (Ex.exit 0, (sl 0 96 [(1, HV.var 0 0), (3, HV.int IntKind.i64 n), (4, HV.int IntKind.i64 (↑i : Int)), (41, HV.bool (decide (n < 2500)))]), [Ob.cel (ePr p)])))
  (some (Ex.exit 0, (sl 0 96 [(1, HV.var 0 0), (3, HV.int IntKind.i64 n), (4, HV.int IntKind.i64 (↑i : Int)), (41, HV.bool false)]), [Ob.cel (ePr p)])) := by kernel_rfl
theorem t4 (call : Nat → List HV → Option HV) (ext : Ext2) (k : Nat) (p : Pr) (n : Int) (v4 v41 : HV) :
    (evC2 (CC call ext k) (kp2 7) 0 k (subC (fnCode PP 7) [1, 1, 1, 0, 0]) Out2 (sl 0 96 [(1, .var 0 0), (3, .int .i64 n), (4, v4), (41, v41)]) [.cel (ePr p)] fin2) =
    some (Ex.normal, (sl 0 96 [(1, HV.var 0 0), (3, HV.int IntKind.i64 n), (5, HV.int IntKind.i64 (0))]), [Ob.cel (ePr p)]) := by kernel_rfl
theorem t5 (call : Nat → List HV → Option HV) (ext : Ext2) (k : Nat) (p : Pr) (n : Int) (i : Nat) :
    (evC2 (CC call ext k) (kp2 7) 0 k (subC (fnCode PP 7) [1, 1, 1, 0, 1, 0, 0]) Out2 (sl 0 96 [(1, .var 0 0), (3, .int .i64 n), (5, .int .i64 i)]) [.cel (ePr p)] (rnd 0)) =
    br (decide ((↑i : Int) < (↑p.users.length : Int))) (br (decide (n < 2500)) (br (decide (0 ≤ (↑i : Int) ∧ (↑i : Int) < (↑p.users.length : Int))) (some (Ex.normal, (sl 0 96 [(1, HV.var 0 0), (3, HV.int IntKind.i64 (IntKind.i64.wrap (n + (↑(p.users.getD i default).while_.length : Int)))), (5, HV.int IntKind.i64 (IntKind.i64.wrap ((↑i : Int) + 1)))]), [Ob.cel [HV.int IntKind.i64 p.flags, HV.int IntKind.i64 p.lasting, HV.lst 1 p.first.length fun i => [HV.int IntKind.i64 (p.first.getD i default)], HV.lst 1 p.over.length fun i => [HV.int IntKind.i64 (p.over.getD i default)], HV.int IntKind.i64 p.from_, HV.lst 1 p.files.length fun i => eStr (p.files.getD i default), HV.lst 4 p.rules.length fun i => eRule (p.rules.getD i default), HV.lst 3 p.counters.length fun i => eCounter (p.counters.getD i default), HV.lst 4 p.users.length fun i => eUser (p.users.getD i default), HV.lst 7 p.notes.length fun i => eItem (p.notes.getD i default)]])) none) (some (Ex.exit 2, (sl 0 96 [(1, HV.var 0 0), (3, HV.int IntKind.i64 n), (5, HV.int IntKind.i64 (↑i : Int)), (77, HV.bool (decide (n < 2500)))]), [Ob.cel (ePr p)])))
  (some (Ex.exit 2, (sl 0 96 [(1, HV.var 0 0), (3, HV.int IntKind.i64 n), (5, HV.int IntKind.i64 (↑i : Int)), (77, HV.bool false)]), [Ob.cel (ePr p)])) := by kernel_rfl
theorem t6 (call : Nat → List HV → Option HV) (ext : Ext2) (k : Nat) (p : Pr) (n : Int) (v5 v77 : HV) :
    (evC2 (CC call ext k) (kp2 7) 0 k (subC (fnCode PP 7) [1, 1, 1, 1, 0]) Out2 (sl 0 96 [(1, .var 0 0), (3, .int .i64 n), (5, v5), (77, v77)]) [.cel (ePr p)] fin2) =
    br (decide (2500 ≤ n)) (some (Ex.normal, (sl 0 96 [(2, HV.bool true)]), [Ob.cel (ePr p)])) (some (Ex.normal, (sl 0 96 [(2, HV.bool (decide (2000 < p.flags)))]), [Ob.cel (ePr p)])) := by kernel_rfl
variable {call : Nat → List HV → Option HV} {ext : Ext2}
theorem f7 {k : Nat} (hx : ext 7 = none) (hk : BB + 4 ≤ k) (p : Pr) (hp : OkPr p) : ∃ b, closedR (callX EE call ext k 7 [.agg (ePr p)] []) = some (.bool b) ∧ (b = false → p.rules.length < 2500) := by
  obtain ⟨k, rfl, hk⟩ := fuel_pos hk
  suffices hs : Giv (callX EE call ext (k + 1) 7 [.agg (ePr p)] []) (fun r => ∃ b, r = (.bool b, []) ∧ (b = false → p.rules.length < 2500)) by
    obtain ⟨r, h, b, rfl, hb⟩ := hs
    exact ⟨b, by rw [h]; rfl, hb⟩
  rw [callX_eq hx rfl Go.Proofs.Try.func7]
  have l1 := hp.first
  have l2 := hp.over
  have l3 := hp.files
  have l4 := hp.rules
  have l5 := hp.counters
  have l6 := hp.users
  have l7 := hp.notes
  unfold Len at l1 l2 l3 l4 l5 l6 l7
  have hres : ∀ (b : Bool) (st : List Ob), retX PP 0 Go.Proofs.Try.f7.results.toList (sl 0 96 [(2, .bool b)]) st = some (.bool b, []) := fun b st => by kernel_rfl
  refine Giv.bodyX (C := CC call ext k) (kp := kp2 7) c7 ?_
  refine Giv.seqE o0 (t0 _ ext k p) ?_
  obtain ⟨n0, hn0⟩ : ∃ n0 : Int, n0 = IntKind.i64.wrap (IntKind.i64.wrap (IntKind.i64.wrap (IntKind.i64.wrap (IntKind.i64.wrap (IntKind.i64.wrap ((p.first.length : Int) + (p.over.length : Int)) + (p.files.length : Int)) + (p.rules.length : Int)) + (p.counters.length : Int)) + (p.users.length : Int)) + (p.notes.length : Int)) := ⟨_, rfl⟩
  have h1 := t1 call ext k p
  rw [← hn0] at h1
  rw [wrap64 (x := (p.first.length : Int) + (p.over.length : Int)) (by omega) (by omega), wrap64 (x := (p.first.length : Int) + (p.over.length : Int) + (p.files.length : Int)) (by omega) (by omega), wrap64 (x := (p.first.length : Int) + (p.over.length : Int) + (p.files.length : Int) + (p.rules.length : Int)) (by omega) (by omega), wrap64 (x := (p.first.length : Int) + (p.over.length : Int) + (p.files.length : Int) + (p.rules.length : Int) + (p.counters.length : Int)) (by omega) (by omega), wrap64 (x := (p.first.length : Int) + (p.over.length : Int) + (p.files.length : Int) + (p.rules.length : Int) + (p.counters.length : Int) + (p.users.length : Int)) (by omega) (by omega), wrap64 (by omega) (by omega)] at hn0
  have hlo : (p.rules.length : Int) ≤ n0 := by omega
  have hhi : n0 ≤ 1000000000000000000 := by omega
  clear hn0
  refine Giv.seqE o1 h1 ?_
  refine Giv.sq o11 ?_
  refine Giv.seqE o110 (t2 _ ext k p n0) ?_
  refine Giv.loopX ol0 (Q1 := fun o => o.1 = .exit 0 ∧ ∃ (n : Int) (v4 v41 : HV), (p.rules.length : Int) ≤ n ∧ n ≤ 1000000000000000000 ∧ o.2 = ((sl 0 96 [(1, .var 0 0), (3, .int .i64 n), (4, v4), (41, v41)]), [.cel (ePr p)])) (e0 := (sl 0 96 [(1, .var 0 0), (3, .int .i64 n0), (4, .int .i64 0)])) (st0 := [.cel (ePr p)]) (by kernel_rfl)
    (fun i e st => ∃ n : Int, (p.rules.length : Int) ≤ n ∧ n ≤ 1000000000000000000 ∧ e = (sl 0 96 [(1, .var 0 0), (3, .int .i64 n), (4, .int .i64 i)]) ∧ st = [.cel (ePr p)]) p.rules.length ⟨n0, hlo, hhi, rfl, rfl⟩ (by unfold BB at hk; omega) ?_ ?_
  · rintro i e st hi ⟨n, a1, a2, rfl, rfl⟩
    refine Giv.of_eq (t3 _ ext k p n i) ?_
    refine Giv.p (fun h1 => ?_) (fun h1 => ?_)
    · refine Giv.p (fun h2 => ?_) (fun h2 => ?_)
      · have hi : i < p.rules.length := by omega
        have hr := hp.rule _ (getD_mem' hi)
        have b1 := hr.ifs
        have b2 := hr.conds
        have b3 := hr.thens
        unfold Len at b1 b2 b3
        refine Giv.t (by omega) ?_
        refine Giv.t (by omega) ?_
        refine Giv.t (by omega) ?_
        refine Giv.ok (.inl ⟨rfl, hi, n + (p.rules.getD i default).ifs.length + (p.rules.getD i default).conds.length + (p.rules.getD i default).thens.length, by omega, by omega, ?_, rfl⟩)
        rw [wrap64 (x := (i : Int) + 1) (by omega) (by omega), wrap64 (x := n + ((p.rules.getD i default).ifs.length : Int)) (by omega) (by omega), wrap64 (x := n + ((p.rules.getD i default).ifs.length : Int) + ((p.rules.getD i default).conds.length : Int)) (by omega) (by omega), wrap64 (by omega) (by omega)]
        rfl
      · exact Giv.ok (.inr ⟨(by intro h; cases h), rfl, n, _, _, a1, a2, rfl⟩)
    · exact Giv.ok (.inr ⟨(by intro h; cases h), rfl, n, _, _, a1, a2, rfl⟩)
  rintro x e st ⟨hx, n, v4, v41, a1, a2, h⟩
  have hx : x = .exit 0 := hx
  subst hx
  injection h with he hs; subst he hs
  show Giv (evC2 _ _ _ _ (subC (fnCode PP 7) [1, 1, 1]) _ _ _ _) _
  refine Giv.sq o111 ?_
  refine Giv.seqE o1110 (t4 _ ext k p n v4 v41) ?_
  refine Giv.loopX ol2 (Q1 := fun o => o.1 = .exit 2 ∧ ∃ (n : Int) (v4 v41 : HV), (p.rules.length : Int) ≤ n ∧ n ≤ 1000000000000000000 ∧ o.2 = ((sl 0 96 [(1, .var 0 0), (3, .int .i64 n), (5, v4), (77, v41)]), [.cel (ePr p)])) (e0 := (sl 0 96 [(1, .var 0 0), (3, .int .i64 n), (5, .int .i64 0)])) (st0 := [.cel (ePr p)]) (by kernel_rfl)
    (fun i e st => ∃ n : Int, (p.rules.length : Int) ≤ n ∧ n ≤ 1000000000000000000 ∧ e = (sl 0 96 [(1, .var 0 0), (3, .int .i64 n), (5, .int .i64 i)]) ∧ st = [.cel (ePr p)]) p.users.length ⟨n, a1, a2, rfl, rfl⟩ (by unfold BB at hk; omega) ?_ ?_
  · rintro i e st hi ⟨n, a1, a2, rfl, rfl⟩
    refine Giv.of_eq (t5 _ ext k p n i) ?_
    refine Giv.p (fun h1 => ?_) (fun h1 => ?_)
    · refine Giv.p (fun h2 => ?_) (fun h2 => ?_)
      · have hi : i < p.users.length := by omega
        have b1 := hp.user _ (getD_mem' hi)
        unfold Len at b1
        refine Giv.t (by omega) ?_
        refine Giv.ok (.inl ⟨rfl, hi, n + (p.users.getD i default).while_.length, by omega, by omega, ?_, rfl⟩)
        rw [wrap64 (x := (i : Int) + 1) (by omega) (by omega), wrap64 (by omega) (by omega)]
        rfl
      · exact Giv.ok (.inr ⟨(by intro h; cases h), rfl, n, _, _, a1, a2, rfl⟩)
    · exact Giv.ok (.inr ⟨(by intro h; cases h), rfl, n, _, _, a1, a2, rfl⟩)
  rintro x e st ⟨hx, n, v5, v77, a1, a2, h⟩
  have hx : x = .exit 2 := hx
  subst hx
  injection h with he hs; subst he hs
  show Giv (evC2 _ _ _ _ (subC (fnCode PP 7) [1, 1, 1, 1]) _ _ _ _) _
  refine Giv.seqX o1111 (Q1 := fun o => ∃ b, (b = false → p.rules.length < 2500) ∧ o = (.normal, (sl 0 96 [(2, .bool b)]), [.cel (ePr p)])) ?_ ?_ (fun x e st h1 h2 => by obtain ⟨b, _, h⟩ := h2; exact absurd (congrArg Prod.fst h) h1)
  · refine Giv.of_eq (t6 _ ext k p n v5 v77) ?_
    refine Giv.p (fun h1 => ?_) (fun h1 => ?_)
    · exact Giv.ok ⟨true, (fun h => by cases h), rfl⟩
    · exact Giv.ok ⟨_, fun _ => by omega, rfl⟩
  rintro e st ⟨b, hb, h⟩
  injection h with _ h; injection h with he hs; subst he hs
  exact Giv.of_eq (hres b _) (Giv.ok ⟨b, rfl, hb⟩)
theorem c11 : Go.Proofs.Try.f11.body = some (subC (fnCode PP 11) []) := by kernel_rfl
theorem y0 : subC (fnCode PP 11) [] = .seq (subC (fnCode PP 11) [0]) (subC (fnCode PP 11) [1]) := by kernel_rfl
theorem y1 : subC (fnCode PP 11) [1] = .seq (subC (fnCode PP 11) [1, 0]) (subC (fnCode PP 11) [1, 1]) := by kernel_rfl
theorem y11 : subC (fnCode PP 11) [1, 1] = .seq (subC (fnCode PP 11) [1, 1, 0]) (subC (fnCode PP 11) [1, 1, 1]) := by kernel_rfl
theorem y110 : subC (fnCode PP 11) [1, 1, 0] = .seq (subC (fnCode PP 11) [1, 1, 0, 0]) (subC (fnCode PP 11) [1, 1, 0, 1]) := by kernel_rfl
theorem y111 : subC (fnCode PP 11) [1, 1, 1] = .seq (subC (fnCode PP 11) [1, 1, 1, 0]) (subC (fnCode PP 11) [1, 1, 1, 1]) := by kernel_rfl
theorem yl0 : subC (fnCode PP 11) [1, 1, 0, 1] = .block 0 (.loop (subC (fnCode PP 11) [1, 1, 0, 1, 0, 0])) := by kernel_rfl
theorem z0 (call : Nat → List HV → Option HV) (ext : Ext2) (k : Nat) (a b : List Int) :
    (evC2 (CC call ext k) (kp2 11) 0 k (subC (fnCode PP 11) [0]) Out2 (sl 0 26 [(0, encL 1 I64 a), (1, encL 1 I64 b)]) [] fin2) =
    some (Ex.normal, (sl 0 26 [(0, encL 1 I64 a), (1, encL 1 I64 b)]), []) := by kernel_rfl
theorem z1 (call : Nat → List HV → Option HV) (ext : Ext2) (k : Nat) (a b : List Int) :
    (evC2 (CC call ext k) (kp2 11) 0 k (subC (fnCode PP 11) [1, 0]) Out2 (sl 0 26 [(0, encL 1 I64 a), (1, encL 1 I64 b)]) [] fin2) =
    br (!decide ((↑a.length : Int) = (↑b.length : Int))) (some (Ex.ret, (sl 0 26 [(4, HV.bool false)]), [])) (some (Ex.normal, (sl 0 26 [(0, encL 1 I64 a), (1, encL 1 I64 b), (10, HV.bool !decide ((↑a.length : Int) = (↑b.length : Int)))]), [])) := by kernel_rfl
theorem z2 (call : Nat → List HV → Option HV) (ext : Ext2) (k : Nat) (a b : List Int) (v : HV) :
    (evC2 (CC call ext k) (kp2 11) 0 k (subC (fnCode PP 11) [1, 1, 0, 0]) Out2 (sl 0 26 [(0, encL 1 I64 a), (1, encL 1 I64 b), (10, v)]) [] fin2) =
    some (Ex.normal, (sl 0 26 [(0, encL 1 I64 a), (1, encL 1 I64 b), (5, HV.int IntKind.i64 (0))]), []) := by kernel_rfl
theorem z3 (call : Nat → List HV → Option HV) (ext : Ext2) (k : Nat) (a b : List Int) (i : Nat) :
    (evC2 (CC call ext k) (kp2 11) 0 k (subC (fnCode PP 11) [1, 1, 0, 1, 0, 0]) Out2 (sl 0 26 [(0, encL 1 I64 a), (1, encL 1 I64 b), (5, .int .i64 i)]) [] (rnd 0)) =
    br (decide ((↑i : Int) < (↑a.length : Int))) (br (decide (0 ≤ (↑i : Int) ∧ (↑i : Int) < (↑a.length : Int))) (br (decide (0 ≤ (↑i : Int) ∧ (↑i : Int) < (↑b.length : Int))) (br (!decide (a.getD i default = b.getD i default)) (some (Ex.ret, (sl 0 26 [(4, HV.bool false)]), [Ob.free, Ob.free, Ob.free, Ob.free, Ob.free, Ob.free, Ob.free, Ob.free, Ob.free])) (some (Ex.normal, (sl 0 26 [(0, HV.lst 1 a.length fun i => [HV.int IntKind.i64 (a.getD i default)]), (1, HV.lst 1 b.length fun i => [HV.int IntKind.i64 (b.getD i default)]), (5, HV.int IntKind.i64 (IntKind.i64.wrap ((↑i : Int) + 1)))]), []))) none) none) (some (Ex.exit 0, (sl 0 26 [(0, encL 1 I64 a), (1, encL 1 I64 b), (5, HV.int IntKind.i64 (↑i : Int)), (14, HV.bool (decide ((↑i : Int) < (↑a.length : Int))))]), [])) := by kernel_rfl
theorem z4 (call : Nat → List HV → Option HV) (ext : Ext2) (k : Nat) (a b : List Int) (i : Nat) (v : HV) :
    (evC2 (CC call ext k) (kp2 11) 0 k (subC (fnCode PP 11) [1, 1, 1, 0]) Out2 (sl 0 26 [(0, encL 1 I64 a), (1, encL 1 I64 b), (5, .int .i64 i), (14, v)]) [] fin2) =
    some (Ex.normal, (sl 0 26 [(4, HV.bool true)]), []) := by kernel_rfl
theorem f11 {k : Nat} (hx : ext 11 = none) (hk : BB + 4 ≤ k) (a b : List Int) (ha : Len a) : closedR (callX EE call ext k 11 [encL 1 I64 a, encL 1 I64 b] []) = some (.bool (decide (a = b))) := by
  obtain ⟨k, rfl, hk⟩ := fuel_pos hk
  suffices hs : callX EE call ext (k + 1) 11 [encL 1 I64 a, encL 1 I64 b] [] = some (.bool (decide (a = b)), []) by rw [hs]; rfl
  rw [callX_eq hx rfl Go.Proofs.Try.func11]
  unfold Len at ha
  have hres : ∀ (b : Bool) (st : List Ob), retX PP 0 Go.Proofs.Try.f11.results.toList (sl 0 26 [(4, .bool b)]) st = some (.bool b, []) := fun b st => by kernel_rfl
  refine Giv.eq ?_
  refine Giv.bodyX (C := CC call ext k) (kp := kp2 11) c11 ?_
  refine Giv.seqE y0 (z0 _ ext k a b) ?_
  refine Giv.seqX y1 (Q1 := fun o => (a.length ≠ b.length ∧ o.1 = .ret ∧ ∃ st, o.2 = ((sl 0 26 [(4, .bool false)]), st)) ∨ (a.length = b.length ∧ ∃ v, o = (.normal, (sl 0 26 [(0, encL 1 I64 a), (1, encL 1 I64 b), (10, v)]), []))) ?_ ?_ ?_
  · refine Giv.of_eq (z1 _ ext k a b) ?_
    refine Giv.b (fun h1 => ?_) (fun h1 => ?_)
    · exact Giv.ok (.inl ⟨by simp at h1; omega, rfl, _, rfl⟩)
    · exact Giv.ok (.inr ⟨by simp at h1; omega, _, rfl⟩)
  rotate_left
  · rintro x e st hx0 (⟨h1, hx, s, h⟩ | ⟨_, v, h⟩)
    · have hx : x = .ret := hx
      subst hx
      injection h with he hs; subst he hs
      refine Giv.of_eq (hres false _) (Giv.ok ?_)
      rw [decide_eq_false (fun e => h1 (by rw [e]))]
    · exact absurd (congrArg Prod.fst h) hx0
  rintro e st (⟨_, h, _⟩ | ⟨hlen, v, h⟩)
  · cases h
  injection h with _ h; injection h with he hs; subst he hs
  refine Giv.sq y11 ?_
  refine Giv.seqE y110 (z2 _ ext k a b v) ?_
  refine Giv.scan3 yl0 (E := fun i => (sl 0 26 [(0, encL 1 I64 a), (1, encL 1 I64 b), (5, .int .i64 i)])) (st0 := []) a.length (diffT a b) (by kernel_rfl) (by unfold BB at hk; omega) (fun i o => o.1 = .ret ∧ ∃ st, o.2 = ((sl 0 26 [(4, .bool false)]), st)) (fun o => o.1 = .exit 0 ∧ ∃ v, o.2 = ((sl 0 26 [(0, encL 1 I64 a), (1, encL 1 I64 b), (5, .int .i64 a.length), (14, v)]), [])) ?_ ?_ ?_ ?_
  · intro i hi
    have hw : IntKind.i64.wrap ((i : Int) + 1) = ((i + 1 : Nat) : Int) := by rw [wrap64 (by omega) (by omega)]; rfl
    refine Giv.of_eq (z3 _ ext k a b i) ?_
    refine Giv.t (by omega) ?_
    refine Giv.t (by omega) ?_
    refine Giv.t (by omega) ?_
    refine Giv.b (fun h1 => ?_) (fun h1 => ?_)
    · exact Giv.ok (.inr ⟨h1, (by intro h; cases h), rfl, _, rfl⟩)
    · refine Giv.ok (.inl ⟨h1, ?_⟩)
      rw [hw]; rfl
  · refine Giv.of_eq (z3 _ ext k a b _) ?_
    refine Giv.p (fun h => absurd h (by omega)) (fun _ => ?_)
    exact Giv.ok ⟨(by intro h; cases h), rfl, _, rfl⟩
  · rintro i x e st hi hT _ ⟨hx, st', h⟩
    have hx : x = .ret := hx
    subst hx
    injection h with he hs; subst he hs
    refine Giv.of_eq (hres false _) (Giv.ok ?_)
    rw [decide_eq_false]
    intro e
    subst e
    simp [diffT] at hT
  · rintro x e st hall ⟨hx, v, h⟩
    have hx : x = .exit 0 := hx
    subst hx
    injection h with he hs; subst he hs
    show Giv (evC2 _ _ _ _ (subC (fnCode PP 11) [1, 1, 1]) _ _ _ _) _
    refine Giv.seqE y111 (z4 _ ext k a b _ v) ?_
    refine Giv.of_eq (hres true _) (Giv.ok ?_)
    rw [decide_eq_true (eq_of_diff hlen hall)]
end
theorem g7 {k : Nat} (hk : BB + 4 ≤ k) (p : Pr) (hp : OkPr p) : ∃ b, callP PP XE FF k 7 [.agg (ePr p)] = some (.bool b) ∧ (b = false → p.rules.length < 2500) := by
  obtain ⟨k, rfl, hk⟩ := fuel_pos hk
  obtain ⟨b, h, hb⟩ := f7 (call := callP PP XE FF k) (ext := sortExt 72 73 3) (k := BB + 30) rfl (by omega) p hp
  exact ⟨b, call_of rfl h, hb⟩
theorem h11 {k : Nat} (hk : BB + 4 ≤ k) (a b : List Int) (ha : Len a) : callP PP XE FF k 11 [encL 1 I64 a, encL 1 I64 b] = some (.bool (decide (a = b))) := by
  obtain ⟨k, rfl, hk⟩ := fuel_pos hk
  exact call_of rfl (f11 (call := callP PP XE FF k) (ext := sortExt 72 73 3) (k := BB + 30) rfl (by omega) a b ha)
end Go.Rul
end
