/- Programs of rules: strata of rules of which something holds. -/
import Derived.Test.YtokpjbddoppdpaaRulC
import Derived.Test.YtokpjbddoppdpaaStoD
set_option linter.unusedVariables false
set_option linter.unusedSimpArgs false
set_option linter.unusedSectionVars false
section
namespace Go.Rul
open Go.Eng
set_option maxRecDepth 100000
set_option linter.unusedVariables false

def rowL (l : List Int) : Ob := .row true (some 3) 1 l.length (fun j => [.int .i64 (l.getD j 0)])
def holdsL (H : Rule → Bool) (l : List Rule) : List Int := (l.filter H).map (·.stratum)
theorem holdsL_succ (H : Rule → Bool) (l : List Rule) (i : Nat) (h : i < l.length) : holdsL H (l.take (i + 1)) = holdsL H (l.take i) ++ cond (H (l.getD i default)) [(l.getD i default).stratum] [] := by
  unfold holdsL
  rw [List.take_succ_eq_append_getElem h, List.filter_append, List.map_append, List.getD_eq_getElem?_getD, List.getElem?_eq_getElem h]
  congr 1
  simp only [Option.getD_some, List.filter_cons]
  cases H l[i] <;> rfl
theorem appL (o : List Int) (s : Int) : Ob.row true (some 3) 1 (o.length + 1) (appF o.length (fun j => [HV.int .i64 (o.getD j 0)]) (nthC [[HV.int .i64 s]] [HV.int .i64 0])) = rowL (o ++ [s]) := by
  unfold rowL
  congr 1
  · simp
  · funext j
    unfold appF
    by_cases hj : j < o.length
    · rw [decide_eq_true hj]
      simp [List.getD_eq_getElem?_getD, List.getElem?_append, hj]
    · rw [decide_eq_false hj]
      simp only [cond_false, nthC, List.getD_eq_getElem?_getD, List.getElem?_append, hj, if_false]
      match j - o.length with
      | 0 => rfl
      | n + 1 => rfl
theorem intsL (l : List Int) : intsF l.length (fun j => [.int .i64 (l.getD j 0)]) = l := by
  apply List.ext_getElem?
  intro j
  unfold intsF
  rw [List.getElem?_map]
  by_cases hj : j < l.length
  · rw [List.getElem?_range hj, List.getElem?_eq_getElem hj]
    simp [intAt, List.getD_eq_getElem?_getD, List.getElem?_eq_getElem hj]
  · rw [List.getElem?_eq_none (by simpa using hj), List.getElem?_eq_none (by omega)]; rfl
theorem allL (l : List Int) : allInt l.length (fun j => [.int .i64 (l.getD j 0)]) := fun _ _ => rfl
theorem c72 {call : Nat → List HV → Option HV} {ext : Ext2} {k : Nat} (h : ext 72 = some (sort2 3)) (hk : 1 ≤ k) (l : List Int) (hl : l.length < 4611686018427387904) : callX EE call ext k 72 [.ow 0] [rowL l] = some (.tup [], [.row true (some 3) 1 l.length (fun j => [.int .i64 ((srt l).getD j 0)])]) := by
  obtain ⟨k, rfl, hk⟩ := fuel_pos hk
  unfold callX
  rw [h]
  simp only [sort2, rowL]
  rw [show ((3 : Nat) == 3) = true from rfl]
  simp only [brs_eq, br_t]
  rw [@decide_eq_true _ (Classical.propDecidable _) (allL l), br_t, decide_eq_true hl, br_t, intsL]
theorem rowS (l : List Int) : rowL (srt l) = .row true (some 3) 1 l.length (fun j => [.int .i64 ((srt l).getD j 0)]) := by unfold rowL; rw [srt_len]
theorem c73 {call : Nat → List HV → Option HV} {ext : Ext2} {k : Nat} (h : ext 73 = some (comp2 3)) (hk : 1 ≤ k) (l : List Int) : callX EE call ext k 73 [.ow 0] [rowL l] = some (.ow 1, [.gone, rowL (Lib.compact l)]) := by
  obtain ⟨k, rfl, hk⟩ := fuel_pos hk
  unfold callX
  rw [h]
  simp only [comp2, rowL]
  rw [show ((3 : Nat) == 3) = true from rfl]
  simp only [brs_eq, br_t]
  rw [@decide_eq_true _ (Classical.propDecidable _) (allL l), br_t, intsL]

section
variable {X : Ext}
theorem c35 : Go.Proofs.Try.f35.body = some (subC (fnCode PP 35) []) := by kernel_rfl
theorem v0 : subC (fnCode PP 35) [] = .seq (subC (fnCode PP 35) [0]) (subC (fnCode PP 35) [1]) := by kernel_rfl
theorem v1 : subC (fnCode PP 35) [1] = .seq (subC (fnCode PP 35) [1, 0]) (subC (fnCode PP 35) [1, 1]) := by kernel_rfl
theorem v11 : subC (fnCode PP 35) [1, 1] = .seq (subC (fnCode PP 35) [1, 1, 0]) (subC (fnCode PP 35) [1, 1, 1]) := by kernel_rfl
theorem v110 : subC (fnCode PP 35) [1, 1, 0] = .seq (subC (fnCode PP 35) [1, 1, 0, 0]) (subC (fnCode PP 35) [1, 1, 0, 1]) := by kernel_rfl
theorem v111 : subC (fnCode PP 35) [1, 1, 1] = .seq (subC (fnCode PP 35) [1, 1, 1, 0]) (subC (fnCode PP 35) [1, 1, 1, 1]) := by kernel_rfl
theorem v1111 : subC (fnCode PP 35) [1, 1, 1, 1] = .seq (subC (fnCode PP 35) [1, 1, 1, 1, 0]) (subC (fnCode PP 35) [1, 1, 1, 1, 1]) := by kernel_rfl
theorem d0 : subC (fnCode PP 35) [1, 1, 0, 1] = .block 0 (.loop (subC (fnCode PP 35) [1, 1, 0, 1, 0, 0])) := by kernel_rfl
theorem k5 (call : Nat → List HV → Option HV) (ext : Ext2) (k : Nat) (o : List Int) : ∃ F : HV → List Ob → Option Out2, evC2 (CC call ext k) (kp2 35) 0 k (subC (fnCode PP 35) [1, 1, 1, 1, 0]) Out2 (sl 0 28 [(5, .ow 0)]) [rowL o] fin2 = bndX (callX EE call ext k 73 [.ow 0] [rowL o]) F ∧ ∀ o' : List Int, F (.ow 1) [.gone, rowL o'] = some (.normal, (sl 0 28 [(4, .ow 1)]), [.gone, rowL o']) := ⟨_, rfl, fun o' => by kernel_rfl⟩
theorem k0_36 (call : Nat → List HV → Option HV) (ext : Ext2) (k : Nat) (p : Pr) (x : Int) :
    (evC2 (CC call ext k) (kp2 35) 0 k (subC (fnCode PP 35) [0]) Out2 (sl 0 28 [(0, .agg (ePr p)), (1, .fn 36 [.ptr [.int .i64 x] 0])]) [] fin2) =
    some (Ex.normal, (sl 0 28 [(1, HV.fn 36 [HV.ptr [HV.int IntKind.i64 x] 0]), (2, HV.var 0 0)]), [Ob.cel [HV.int IntKind.i64 p.flags, HV.int IntKind.i64 p.lasting, encL 1 I64 p.first, encL 1 I64 p.over, HV.int IntKind.i64 p.from_, encL 1 eStr p.files, encL 4 eRule p.rules, encL 3 eCounter p.counters, encL 4 eUser p.users, encL 7 eItem p.notes], Ob.row true (some 3) 1 0 fun x => [HV.int IntKind.i64 (0)]]) := by kernel_rfl
theorem k1_36 (call : Nat → List HV → Option HV) (ext : Ext2) (k : Nat) (p : Pr) (x : Int) :
    (evC2 (CC call ext k) (kp2 35) 0 k (subC (fnCode PP 35) [1, 0]) Out2 (sl 0 28 [(1, .fn 36 [.ptr [.int .i64 x] 0]), (2, .var 0 0)]) [.cel (ePr p), rowL []] fin2) =
    some (Ex.normal, (sl 0 28 [(1, HV.fn 36 [HV.ptr [HV.int IntKind.i64 x] 0]), (2, HV.var 0 0), (5, HV.ow 2)]), [Ob.cel (ePr p), Ob.row true (some 3) 1 0 fun j => [HV.int IntKind.i64 ([].getD j (0))], Ob.row true (some 3) 1 0 fun x => [HV.int IntKind.i64 (0)]]) := by kernel_rfl
theorem k2_36 (call : Nat → List HV → Option HV) (ext : Ext2) (k : Nat) (p : Pr) (x : Int) :
    (evC2 (CC call ext k) (kp2 35) 0 k (subC (fnCode PP 35) [1, 1, 0, 0]) Out2 (sl 0 28 [(1, .fn 36 [.ptr [.int .i64 x] 0]), (2, .var 0 0), (5, .ow 2)]) [.cel (ePr p), rowL [], rowL []] fin2) =
    some (Ex.normal, (sl 0 28 [(1, HV.fn 36 [HV.ptr [HV.int IntKind.i64 x] 0]), (5, HV.ow 2), (9, encL 4 eRule p.rules), (10, HV.int IntKind.i64 (↑p.rules.length : Int)), (11, HV.int IntKind.i64 (0))]), [Ob.cel (ePr p), Ob.row true (some 3) 1 0 fun j => [HV.int IntKind.i64 ([].getD j (0))], Ob.row true (some 3) 1 0 fun j => [HV.int IntKind.i64 ([].getD j (0))]]) := by kernel_rfl
theorem k3_36 (call : Nat → List HV → Option HV) (ext : Ext2) (k : Nat) (l : List Rule) (x : Int) (i : Nat) (o : List Int) :
    (evC2 (CC call ext k) (kp2 35) 0 k (subC (fnCode PP 35) [1, 1, 0, 1, 0, 0]) Out2 (sl 0 28 [(1, .fn 36 [.ptr [.int .i64 x] 0]), (5, .ow 0), (9, encL 4 eRule l), (10, .int .i64 l.length), (11, .int .i64 i)]) [rowL o] (rnd 0)) =
    br (decide ((↑i : Int) < (↑l.length : Int))) (br (decide (0 ≤ (↑i : Int) ∧ (↑i : Int) < (↑l.length : Int))) (bndB ((CC call ext k).call 36 [HV.agg [HV.int IntKind.i64 (l.getD i default).stratum, encL 2 eLit (l.getD i default).ifs, encL 3 eCond (l.getD i default).conds, encL 2 eSet (l.getD i default).thens], HV.ptr [HV.int IntKind.i64 x] 0]) fun b => br b (br (decide ((o.length + 1) * 8 ≤ 140737488355328)) (some (Ex.normal, (sl 0 28 [(1, HV.fn 36 [HV.ptr [HV.int IntKind.i64 x] 0]), (5, HV.ow 0), (9, HV.lst 4 l.length fun i => eRule (l.getD i default)), (10, HV.int IntKind.i64 (↑l.length : Int)), (11, HV.int IntKind.i64 (IntKind.i64.wrap ((↑i : Int) + 1)))]), [Ob.row true (some 3) 1 (o.length + 1) (appF o.length (fun j => [HV.int IntKind.i64 (o.getD j (0))]) (nthC [[HV.int IntKind.i64 (l.getD i default).stratum]] [HV.int IntKind.i64 (0)]))])) none) (some (Ex.normal, (sl 0 28 [(1, HV.fn 36 [HV.ptr [HV.int IntKind.i64 x] 0]), (5, HV.ow 0), (9, HV.lst 4 l.length fun i => eRule (l.getD i default)), (10, HV.int IntKind.i64 (↑l.length : Int)), (11, HV.int IntKind.i64 (IntKind.i64.wrap ((↑i : Int) + 1)))]), [Ob.row true (some 3) 1 o.length fun j => [HV.int IntKind.i64 (o.getD j (0))]]))) none) (some (Ex.exit 0, (sl 0 28 [(1, HV.fn 36 [HV.ptr [HV.int IntKind.i64 x] 0]), (5, HV.ow 0), (9, encL 4 eRule l), (10, HV.int IntKind.i64 (↑l.length : Int)), (11, HV.int IntKind.i64 (↑i : Int)), (12, HV.bool (decide ((↑i : Int) < (↑l.length : Int))))]), [Ob.row true (some 3) 1 o.length fun j => [HV.int IntKind.i64 (o.getD j (0))]])) := by kernel_rfl
theorem k4_36 (call : Nat → List HV → Option HV) (ext : Ext2) (k : Nat) (l : List Rule) (x : Int) (i : Nat) (v : HV) (o : List Int) :
    (evC2 (CC call ext k) (kp2 35) 0 k (subC (fnCode PP 35) [1, 1, 1, 0]) Out2 (sl 0 28 [(1, .fn 36 [.ptr [.int .i64 x] 0]), (5, .ow 0), (9, encL 4 eRule l), (10, .int .i64 l.length), (11, .int .i64 i), (12, v)]) [rowL o] fin2) =
    bndX ((CC call ext k).call2 72 [HV.ow 0] [Ob.row true (some 3) 1 o.length fun j => [HV.int IntKind.i64 (o.getD j (0))]]) fun r so => br (eqB so (mergeS [(fun r => renO (posOf (List.filter (fun r => liveO (appl [rowL o] [])[r]?) (reachL (appl [rowL o] []) 200 (List.flatMap (refsD 5) (nzs (CC call ext k).P (paramsT (CC call ext k).P 72) [HV.ow 0] ++ [])) []))) ((appl [rowL o] []).getD r Ob.gone)) 0] so 0)) (br (eqB r (HV.tup [])) (some (Ex.normal, (sl 0 28 [(5, HV.ow 0)]), [Ob.row true (some 3) 1 o.length (rowF so[0]?)])) none) none := by kernel_rfl
theorem k0_40 (call : Nat → List HV → Option HV) (ext : Ext2) (k : Nat) (p : Pr) (x : Int) :
    (evC2 (CC call ext k) (kp2 35) 0 k (subC (fnCode PP 35) [0]) Out2 (sl 0 28 [(0, .agg (ePr p)), (1, .fn 40 [.ptr [.int .i64 x] 0])]) [] fin2) =
    some (Ex.normal, (sl 0 28 [(1, HV.fn 40 [HV.ptr [HV.int IntKind.i64 x] 0]), (2, HV.var 0 0)]), [Ob.cel [HV.int IntKind.i64 p.flags, HV.int IntKind.i64 p.lasting, encL 1 I64 p.first, encL 1 I64 p.over, HV.int IntKind.i64 p.from_, encL 1 eStr p.files, encL 4 eRule p.rules, encL 3 eCounter p.counters, encL 4 eUser p.users, encL 7 eItem p.notes], Ob.row true (some 3) 1 0 fun x => [HV.int IntKind.i64 (0)]]) := by kernel_rfl
theorem k1_40 (call : Nat → List HV → Option HV) (ext : Ext2) (k : Nat) (p : Pr) (x : Int) :
    (evC2 (CC call ext k) (kp2 35) 0 k (subC (fnCode PP 35) [1, 0]) Out2 (sl 0 28 [(1, .fn 40 [.ptr [.int .i64 x] 0]), (2, .var 0 0)]) [.cel (ePr p), rowL []] fin2) =
    some (Ex.normal, (sl 0 28 [(1, HV.fn 40 [HV.ptr [HV.int IntKind.i64 x] 0]), (2, HV.var 0 0), (5, HV.ow 2)]), [Ob.cel (ePr p), Ob.row true (some 3) 1 0 fun j => [HV.int IntKind.i64 ([].getD j (0))], Ob.row true (some 3) 1 0 fun x => [HV.int IntKind.i64 (0)]]) := by kernel_rfl
theorem k2_40 (call : Nat → List HV → Option HV) (ext : Ext2) (k : Nat) (p : Pr) (x : Int) :
    (evC2 (CC call ext k) (kp2 35) 0 k (subC (fnCode PP 35) [1, 1, 0, 0]) Out2 (sl 0 28 [(1, .fn 40 [.ptr [.int .i64 x] 0]), (2, .var 0 0), (5, .ow 2)]) [.cel (ePr p), rowL [], rowL []] fin2) =
    some (Ex.normal, (sl 0 28 [(1, HV.fn 40 [HV.ptr [HV.int IntKind.i64 x] 0]), (5, HV.ow 2), (9, encL 4 eRule p.rules), (10, HV.int IntKind.i64 (↑p.rules.length : Int)), (11, HV.int IntKind.i64 (0))]), [Ob.cel (ePr p), Ob.row true (some 3) 1 0 fun j => [HV.int IntKind.i64 ([].getD j (0))], Ob.row true (some 3) 1 0 fun j => [HV.int IntKind.i64 ([].getD j (0))]]) := by kernel_rfl
theorem k3_40 (call : Nat → List HV → Option HV) (ext : Ext2) (k : Nat) (l : List Rule) (x : Int) (i : Nat) (o : List Int) :
    (evC2 (CC call ext k) (kp2 35) 0 k (subC (fnCode PP 35) [1, 1, 0, 1, 0, 0]) Out2 (sl 0 28 [(1, .fn 40 [.ptr [.int .i64 x] 0]), (5, .ow 0), (9, encL 4 eRule l), (10, .int .i64 l.length), (11, .int .i64 i)]) [rowL o] (rnd 0)) =
    br (decide ((↑i : Int) < (↑l.length : Int))) (br (decide (0 ≤ (↑i : Int) ∧ (↑i : Int) < (↑l.length : Int))) (bndB ((CC call ext k).call 40 [HV.agg [HV.int IntKind.i64 (l.getD i default).stratum, encL 2 eLit (l.getD i default).ifs, encL 3 eCond (l.getD i default).conds, encL 2 eSet (l.getD i default).thens], HV.ptr [HV.int IntKind.i64 x] 0]) fun b => br b (br (decide ((o.length + 1) * 8 ≤ 140737488355328)) (some (Ex.normal, (sl 0 28 [(1, HV.fn 40 [HV.ptr [HV.int IntKind.i64 x] 0]), (5, HV.ow 0), (9, HV.lst 4 l.length fun i => eRule (l.getD i default)), (10, HV.int IntKind.i64 (↑l.length : Int)), (11, HV.int IntKind.i64 (IntKind.i64.wrap ((↑i : Int) + 1)))]), [Ob.row true (some 3) 1 (o.length + 1) (appF o.length (fun j => [HV.int IntKind.i64 (o.getD j (0))]) (nthC [[HV.int IntKind.i64 (l.getD i default).stratum]] [HV.int IntKind.i64 (0)]))])) none) (some (Ex.normal, (sl 0 28 [(1, HV.fn 40 [HV.ptr [HV.int IntKind.i64 x] 0]), (5, HV.ow 0), (9, HV.lst 4 l.length fun i => eRule (l.getD i default)), (10, HV.int IntKind.i64 (↑l.length : Int)), (11, HV.int IntKind.i64 (IntKind.i64.wrap ((↑i : Int) + 1)))]), [Ob.row true (some 3) 1 o.length fun j => [HV.int IntKind.i64 (o.getD j (0))]]))) none) (some (Ex.exit 0, (sl 0 28 [(1, HV.fn 40 [HV.ptr [HV.int IntKind.i64 x] 0]), (5, HV.ow 0), (9, encL 4 eRule l), (10, HV.int IntKind.i64 (↑l.length : Int)), (11, HV.int IntKind.i64 (↑i : Int)), (12, HV.bool (decide ((↑i : Int) < (↑l.length : Int))))]), [Ob.row true (some 3) 1 o.length fun j => [HV.int IntKind.i64 (o.getD j (0))]])) := by kernel_rfl
theorem k4_40 (call : Nat → List HV → Option HV) (ext : Ext2) (k : Nat) (l : List Rule) (x : Int) (i : Nat) (v : HV) (o : List Int) :
    (evC2 (CC call ext k) (kp2 35) 0 k (subC (fnCode PP 35) [1, 1, 1, 0]) Out2 (sl 0 28 [(1, .fn 40 [.ptr [.int .i64 x] 0]), (5, .ow 0), (9, encL 4 eRule l), (10, .int .i64 l.length), (11, .int .i64 i), (12, v)]) [rowL o] fin2) =
    bndX ((CC call ext k).call2 72 [HV.ow 0] [Ob.row true (some 3) 1 o.length fun j => [HV.int IntKind.i64 (o.getD j (0))]]) fun r so => br (eqB so (mergeS [(fun r => renO (posOf (List.filter (fun r => liveO (appl [rowL o] [])[r]?) (reachL (appl [rowL o] []) 200 (List.flatMap (refsD 5) (nzs (CC call ext k).P (paramsT (CC call ext k).P 72) [HV.ow 0] ++ [])) []))) ((appl [rowL o] []).getD r Ob.gone)) 0] so 0)) (br (eqB r (HV.tup [])) (some (Ex.normal, (sl 0 28 [(5, HV.ow 0)]), [Ob.row true (some 3) 1 o.length (rowF so[0]?)])) none) none := by kernel_rfl
variable {call : Nat → List HV → Option HV} {ext : Ext2}
theorem f35_36 {k : Nat} (hx : ext 35 = none) (h72 : ext 72 = some (sort2 3)) (h73 : ext 73 = some (comp2 3)) (hk : BB + 3 ≤ k) (p : Pr) (x : Int) (H : Rule → Bool) (hl : p.rules.length ≤ 100000)
    (hH : ∀ r ∈ p.rules, call 36 [.agg (eRule r), .ptr [.int .i64 x] 0] = some (.bool (H r))) : closedR (callX EE call ext k 35 [.agg (ePr p), .fn 36 [.ptr [.int .i64 x] 0]] []) = some (encL 1 I64 (Lib.compact (srt (holdsL H p.rules)))) := by
  obtain ⟨k, rfl, hk⟩ := fuel_pos hk
  have hlen : (holdsL H p.rules).length ≤ p.rules.length := by unfold holdsL; rw [List.length_map]; exact List.length_filter_le _ _
  suffices hs : ∃ st, callX EE call ext (k + 1) 35 [.agg (ePr p), .fn 36 [.ptr [.int .i64 x] 0]] [] = some (.ow 0, rowL (Lib.compact (srt (holdsL H p.rules))) :: st) by
    obtain ⟨st, hs⟩ := hs
    rw [hs]
    rfl
  rw [callX_eq hx rfl Go.Proofs.Try.func35]
  suffices hs : Giv (body2 (CC call ext k) (kp2 35) k Go.Proofs.Try.f35 [.agg (ePr p), .fn 36 [.ptr [.int .i64 x] 0]] []) fun r => ∃ st, r = (.ow 0, rowL (Lib.compact (srt (holdsL H p.rules))) :: st) by
    obtain ⟨r, h, st, rfl⟩ := hs
    exact ⟨st, h⟩
  refine Giv.bodyX (C := CC call ext k) (kp := kp2 35) c35 ?_
  refine Giv.seqX v0 (Q1 := fun o => o = (.normal, (sl 0 28 [(1, .fn 36 [.ptr [.int .i64 x] 0]), (2, .var 0 0)]), [.cel (ePr p), rowL []])) (Giv.of_eq (k0_36 call ext k p x) (Giv.ok rfl)) ?_ (fun x e st h1 h2 => absurd (congrArg Prod.fst h2) h1)
  intro e st h
  injection h with _ h; injection h with he hs; subst he hs
  refine Giv.seqX v1 (Q1 := fun o => o = (.normal, (sl 0 28 [(1, .fn 36 [.ptr [.int .i64 x] 0]), (2, .var 0 0), (5, .ow 2)]), [.cel (ePr p), rowL [], rowL []])) (Giv.of_eq (k1_36 call ext k p x) (Giv.ok rfl)) ?_ (fun x e st h1 h2 => absurd (congrArg Prod.fst h2) h1)
  intro e st h
  injection h with _ h; injection h with he hs; subst he hs
  refine Giv.seqX v11 (Q1 := fun o => ∃ v, o = (.normal, (sl 0 28 [(1, .fn 36 [.ptr [.int .i64 x] 0]), (5, .ow 0), (9, encL 4 eRule p.rules), (10, .int .i64 p.rules.length), (11, .int .i64 p.rules.length), (12, v)]), [rowL (holdsL H p.rules)])) ?_ ?_ (fun x e st h1 h2 => by obtain ⟨v, h⟩ := h2; exact absurd (congrArg Prod.fst h) h1)
  · refine Giv.seqX v110 (Q1 := fun o => o = (.normal, (sl 0 28 [(1, .fn 36 [.ptr [.int .i64 x] 0]), (5, .ow 2), (9, encL 4 eRule p.rules), (10, .int .i64 p.rules.length), (11, .int .i64 0)]), [.cel (ePr p), rowL [], rowL []])) (Giv.of_eq (k2_36 call ext k p x) (Giv.ok rfl)) ?_ (fun x e st h1 h2 => absurd (congrArg Prod.fst h2) h1)
    intro e st h
    injection h with _ h; injection h with he hs; subst he hs
    refine Giv.loopX d0 (Q1 := fun o => o.1 = .exit 0 ∧ ∃ v, o.2 = ((sl 0 28 [(1, .fn 36 [.ptr [.int .i64 x] 0]), (5, .ow 0), (9, encL 4 eRule p.rules), (10, .int .i64 p.rules.length), (11, .int .i64 p.rules.length), (12, v)]), [rowL (holdsL H p.rules)]))
      (e0 := (sl 0 28 [(1, .fn 36 [.ptr [.int .i64 x] 0]), (5, .ow 0), (9, encL 4 eRule p.rules), (10, .int .i64 p.rules.length), (11, .int .i64 0)])) (st0 := [rowL []]) (by kernel_rfl)
      (fun i e st => i ≤ p.rules.length ∧ e = (sl 0 28 [(1, .fn 36 [.ptr [.int .i64 x] 0]), (5, .ow 0), (9, encL 4 eRule p.rules), (10, .int .i64 p.rules.length), (11, .int .i64 i)]) ∧ st = [rowL (holdsL H (p.rules.take i))]) p.rules.length ⟨Nat.zero_le _, rfl, rfl⟩ (by unfold BB at hk; omega) ?_ ?_
    · rintro i e st hi ⟨_, rfl, rfl⟩
      refine Giv.of_eq (k3_36 call ext k p.rules x i _) ?_
      refine Giv.p (fun h1 => ?_) (fun h1 => ?_)
      · have hi : i < p.rules.length := by omega
        have htl : (holdsL H (p.rules.take i)).length ≤ i := by unfold holdsL; rw [List.length_map]; refine Nat.le_trans (List.length_filter_le _ _) ?_; simp; omega
        have hstep := holdsL_succ H p.rules i hi
        refine Giv.t (by omega) ?_
        refine Giv.B (hH _ (getD_mem' hi)) ?_
        refine Giv.b (fun h2 => ?_) (fun h2 => ?_)
        · refine Giv.t (by omega) ?_
          refine Giv.ok (.inl ⟨rfl, by omega, by omega, ?_, ?_⟩)
          · rw [wrap64 (by omega) (by omega)]; rfl
          · rw [hstep, h2, appL]; rfl
        · refine Giv.ok (.inl ⟨rfl, by omega, by omega, ?_, ?_⟩)
          · rw [wrap64 (by omega) (by omega)]; rfl
          · rw [hstep, h2, cond_false, List.append_nil]; rfl
      · have : i = p.rules.length := by omega
        subst this
        rw [List.take_length]
        exact Giv.ok (.inr ⟨(by intro h; cases h), rfl, _, rfl⟩)
    · rintro x e st ⟨hx, v, h⟩
      have hx : x = .exit 0 := hx
      subst hx
      injection h with he hs; subst he hs
      exact Giv.ok ⟨v, rfl⟩
  rintro e st ⟨v, h⟩
  injection h with _ h; injection h with he hs; subst he hs
  refine Giv.seqX v111 (Q1 := fun o => o = (.normal, (sl 0 28 [(5, .ow 0)]), [rowL (srt (holdsL H p.rules))])) ?_ ?_ (fun x e st h1 h2 => absurd (congrArg Prod.fst h2) h1)
  · refine Giv.of_eq (k4_36 call ext k p.rules x p.rules.length v (holdsL H p.rules)) ?_
    refine Giv.X (c72 h72 (by omega) (holdsL H p.rules) (by omega)) ?_
    refine Giv.E (by kernel_rfl) ?_
    refine Giv.E rfl ?_
    refine Giv.ok ?_
    rw [rowS]; rfl
  intro e st h
  injection h with _ h; injection h with he hs; subst he hs
  refine Giv.seqX v1111 (Q1 := fun o => o = (.normal, (sl 0 28 [(4, .ow 1)]), [.gone, rowL (Lib.compact (srt (holdsL H p.rules)))])) ?_ ?_ (fun x e st h1 h2 => absurd (congrArg Prod.fst h2) h1)
  · obtain ⟨F, e1, e2⟩ := k5 call ext k (srt (holdsL H p.rules))
    refine Giv.of_eq e1 ?_
    refine Giv.X (c73 h73 (by omega) (srt (holdsL H p.rules))) ?_
    exact Giv.of_eq (e2 _) (Giv.ok rfl)
  intro e st h
  injection h with _ h; injection h with he hs; subst he hs
  refine Giv.of_eq ((by kernel_rfl : _ = some (HV.ow 0, [rowL (Lib.compact (srt (holdsL H p.rules)))]))) ?_
  exact Giv.ok ⟨_, rfl⟩
theorem f35_40 {k : Nat} (hx : ext 35 = none) (h72 : ext 72 = some (sort2 3)) (h73 : ext 73 = some (comp2 3)) (hk : BB + 3 ≤ k) (p : Pr) (x : Int) (H : Rule → Bool) (hl : p.rules.length ≤ 100000)
    (hH : ∀ r ∈ p.rules, call 40 [.agg (eRule r), .ptr [.int .i64 x] 0] = some (.bool (H r))) : closedR (callX EE call ext k 35 [.agg (ePr p), .fn 40 [.ptr [.int .i64 x] 0]] []) = some (encL 1 I64 (Lib.compact (srt (holdsL H p.rules)))) := by
  obtain ⟨k, rfl, hk⟩ := fuel_pos hk
  have hlen : (holdsL H p.rules).length ≤ p.rules.length := by unfold holdsL; rw [List.length_map]; exact List.length_filter_le _ _
  suffices hs : ∃ st, callX EE call ext (k + 1) 35 [.agg (ePr p), .fn 40 [.ptr [.int .i64 x] 0]] [] = some (.ow 0, rowL (Lib.compact (srt (holdsL H p.rules))) :: st) by
    obtain ⟨st, hs⟩ := hs
    rw [hs]
    rfl
  rw [callX_eq hx rfl Go.Proofs.Try.func35]
  suffices hs : Giv (body2 (CC call ext k) (kp2 35) k Go.Proofs.Try.f35 [.agg (ePr p), .fn 40 [.ptr [.int .i64 x] 0]] []) fun r => ∃ st, r = (.ow 0, rowL (Lib.compact (srt (holdsL H p.rules))) :: st) by
    obtain ⟨r, h, st, rfl⟩ := hs
    exact ⟨st, h⟩
  refine Giv.bodyX (C := CC call ext k) (kp := kp2 35) c35 ?_
  refine Giv.seqX v0 (Q1 := fun o => o = (.normal, (sl 0 28 [(1, .fn 40 [.ptr [.int .i64 x] 0]), (2, .var 0 0)]), [.cel (ePr p), rowL []])) (Giv.of_eq (k0_40 call ext k p x) (Giv.ok rfl)) ?_ (fun x e st h1 h2 => absurd (congrArg Prod.fst h2) h1)
  intro e st h
  injection h with _ h; injection h with he hs; subst he hs
  refine Giv.seqX v1 (Q1 := fun o => o = (.normal, (sl 0 28 [(1, .fn 40 [.ptr [.int .i64 x] 0]), (2, .var 0 0), (5, .ow 2)]), [.cel (ePr p), rowL [], rowL []])) (Giv.of_eq (k1_40 call ext k p x) (Giv.ok rfl)) ?_ (fun x e st h1 h2 => absurd (congrArg Prod.fst h2) h1)
  intro e st h
  injection h with _ h; injection h with he hs; subst he hs
  refine Giv.seqX v11 (Q1 := fun o => ∃ v, o = (.normal, (sl 0 28 [(1, .fn 40 [.ptr [.int .i64 x] 0]), (5, .ow 0), (9, encL 4 eRule p.rules), (10, .int .i64 p.rules.length), (11, .int .i64 p.rules.length), (12, v)]), [rowL (holdsL H p.rules)])) ?_ ?_ (fun x e st h1 h2 => by obtain ⟨v, h⟩ := h2; exact absurd (congrArg Prod.fst h) h1)
  · refine Giv.seqX v110 (Q1 := fun o => o = (.normal, (sl 0 28 [(1, .fn 40 [.ptr [.int .i64 x] 0]), (5, .ow 2), (9, encL 4 eRule p.rules), (10, .int .i64 p.rules.length), (11, .int .i64 0)]), [.cel (ePr p), rowL [], rowL []])) (Giv.of_eq (k2_40 call ext k p x) (Giv.ok rfl)) ?_ (fun x e st h1 h2 => absurd (congrArg Prod.fst h2) h1)
    intro e st h
    injection h with _ h; injection h with he hs; subst he hs
    refine Giv.loopX d0 (Q1 := fun o => o.1 = .exit 0 ∧ ∃ v, o.2 = ((sl 0 28 [(1, .fn 40 [.ptr [.int .i64 x] 0]), (5, .ow 0), (9, encL 4 eRule p.rules), (10, .int .i64 p.rules.length), (11, .int .i64 p.rules.length), (12, v)]), [rowL (holdsL H p.rules)]))
      (e0 := (sl 0 28 [(1, .fn 40 [.ptr [.int .i64 x] 0]), (5, .ow 0), (9, encL 4 eRule p.rules), (10, .int .i64 p.rules.length), (11, .int .i64 0)])) (st0 := [rowL []]) (by kernel_rfl)
      (fun i e st => i ≤ p.rules.length ∧ e = (sl 0 28 [(1, .fn 40 [.ptr [.int .i64 x] 0]), (5, .ow 0), (9, encL 4 eRule p.rules), (10, .int .i64 p.rules.length), (11, .int .i64 i)]) ∧ st = [rowL (holdsL H (p.rules.take i))]) p.rules.length ⟨Nat.zero_le _, rfl, rfl⟩ (by unfold BB at hk; omega) ?_ ?_
    · rintro i e st hi ⟨_, rfl, rfl⟩
      refine Giv.of_eq (k3_40 call ext k p.rules x i _) ?_
      refine Giv.p (fun h1 => ?_) (fun h1 => ?_)
      · have hi : i < p.rules.length := by omega
        have htl : (holdsL H (p.rules.take i)).length ≤ i := by unfold holdsL; rw [List.length_map]; refine Nat.le_trans (List.length_filter_le _ _) ?_; simp; omega
        have hstep := holdsL_succ H p.rules i hi
        refine Giv.t (by omega) ?_
        refine Giv.B (hH _ (getD_mem' hi)) ?_
        refine Giv.b (fun h2 => ?_) (fun h2 => ?_)
        · refine Giv.t (by omega) ?_
          refine Giv.ok (.inl ⟨rfl, by omega, by omega, ?_, ?_⟩)
          · rw [wrap64 (by omega) (by omega)]; rfl
          · rw [hstep, h2, appL]; rfl
        · refine Giv.ok (.inl ⟨rfl, by omega, by omega, ?_, ?_⟩)
          · rw [wrap64 (by omega) (by omega)]; rfl
          · rw [hstep, h2, cond_false, List.append_nil]; rfl
      · have : i = p.rules.length := by omega
        subst this
        rw [List.take_length]
        exact Giv.ok (.inr ⟨(by intro h; cases h), rfl, _, rfl⟩)
    · rintro x e st ⟨hx, v, h⟩
      have hx : x = .exit 0 := hx
      subst hx
      injection h with he hs; subst he hs
      exact Giv.ok ⟨v, rfl⟩
  rintro e st ⟨v, h⟩
  injection h with _ h; injection h with he hs; subst he hs
  refine Giv.seqX v111 (Q1 := fun o => o = (.normal, (sl 0 28 [(5, .ow 0)]), [rowL (srt (holdsL H p.rules))])) ?_ ?_ (fun x e st h1 h2 => absurd (congrArg Prod.fst h2) h1)
  · refine Giv.of_eq (k4_40 call ext k p.rules x p.rules.length v (holdsL H p.rules)) ?_
    refine Giv.X (c72 h72 (by omega) (holdsL H p.rules) (by omega)) ?_
    refine Giv.E (by kernel_rfl) ?_
    refine Giv.E rfl ?_
    refine Giv.ok ?_
    rw [rowS]; rfl
  intro e st h
  injection h with _ h; injection h with he hs; subst he hs
  refine Giv.seqX v1111 (Q1 := fun o => o = (.normal, (sl 0 28 [(4, .ow 1)]), [.gone, rowL (Lib.compact (srt (holdsL H p.rules)))])) ?_ ?_ (fun x e st h1 h2 => absurd (congrArg Prod.fst h2) h1)
  · obtain ⟨F, e1, e2⟩ := k5 call ext k (srt (holdsL H p.rules))
    refine Giv.of_eq e1 ?_
    refine Giv.X (c73 h73 (by omega) (srt (holdsL H p.rules))) ?_
    exact Giv.of_eq (e2 _) (Giv.ok rfl)
  intro e st h
  injection h with _ h; injection h with he hs; subst he hs
  refine Giv.of_eq ((by kernel_rfl : _ = some (HV.ow 0, [rowL (Lib.compact (srt (holdsL H p.rules)))]))) ?_
  exact Giv.ok ⟨_, rfl⟩
end
end Go.Rul
end

section
namespace Go.Rul
open Go.Eng
set_option maxRecDepth 100000
set_option linter.unusedVariables false

def endT (p : Pr) (c : Counter) : Bool := !inB c.while_ 0 p.lasting || decide (c.limit < 1) || decide (100 < c.limit) || !inB c.then_ 0 p.flags || decide (c.then_ < p.lasting)
def endU (p : Pr) (u : User) : Bool := !(u.while_.all fun x => inB x.flag 0 p.lasting) || !inB u.then_ 0 p.flags || decide (u.then_ < p.lasting)
def endsB (p : Pr) : Bool := (p.counters.all fun c => !endT p c) && p.users.all fun u => !endU p u
section
variable {X : Ext}
theorem c27 : Go.Proofs.Try.f27.body = some (subC (fnCode PP 27) []) := by kernel_rfl
theorem a0 : subC (fnCode PP 27) [] = .seq (subC (fnCode PP 27) [0]) (subC (fnCode PP 27) [1]) := by kernel_rfl
theorem a1 : subC (fnCode PP 27) [1] = .seq (subC (fnCode PP 27) [1, 0]) (subC (fnCode PP 27) [1, 1]) := by kernel_rfl
theorem a10 : subC (fnCode PP 27) [1, 0] = .seq (subC (fnCode PP 27) [1, 0, 0]) (subC (fnCode PP 27) [1, 0, 1]) := by kernel_rfl
theorem a11 : subC (fnCode PP 27) [1, 1] = .seq (subC (fnCode PP 27) [1, 1, 0]) (subC (fnCode PP 27) [1, 1, 1]) := by kernel_rfl
theorem a110 : subC (fnCode PP 27) [1, 1, 0] = .seq (subC (fnCode PP 27) [1, 1, 0, 0]) (subC (fnCode PP 27) [1, 1, 0, 1]) := by kernel_rfl
theorem a111 : subC (fnCode PP 27) [1, 1, 1] = .seq (subC (fnCode PP 27) [1, 1, 1, 0]) (subC (fnCode PP 27) [1, 1, 1, 1]) := by kernel_rfl
theorem al0 : subC (fnCode PP 27) [1, 0, 1] = .block 0 (.loop (subC (fnCode PP 27) [1, 0, 1, 0, 0])) := by kernel_rfl
theorem al2 : subC (fnCode PP 27) [1, 1, 0, 1] = .block 2 (.loop (subC (fnCode PP 27) [1, 1, 0, 1, 0, 0])) := by kernel_rfl
theorem m0 (call : Nat → List HV → Option HV) (ext : Ext2) (k : Nat) (p : Pr) :
    (evC2 (CC call ext k) (kp2 27) 0 k (subC (fnCode PP 27) [0]) Out2 (sl 0 83 [(0, .agg (ePr p))]) [] fin2) =
    some (Ex.normal, (sl 0 83 [(1, HV.var 0 0)]), [Ob.cel [HV.int IntKind.i64 p.flags, HV.int IntKind.i64 p.lasting, encL 1 I64 p.first, encL 1 I64 p.over, HV.int IntKind.i64 p.from_, encL 1 eStr p.files, encL 4 eRule p.rules, encL 3 eCounter p.counters, encL 4 eUser p.users, encL 7 eItem p.notes]]) := by kernel_rfl
theorem m1 (call : Nat → List HV → Option HV) (ext : Ext2) (k : Nat) (p : Pr) :
    (evC2 (CC call ext k) (kp2 27) 0 k (subC (fnCode PP 27) [1, 0, 0]) Out2 (sl 0 83 [(1, .var 0 0)]) [.cel (ePr p)] fin2) =
    some (Ex.normal, (sl 0 83 [(1, HV.var 0 0), (3, HV.int IntKind.i64 (0))]), [Ob.cel (ePr p)]) := by kernel_rfl
theorem m2 (call : Nat → List HV → Option HV) (ext : Ext2) (k : Nat) (p : Pr) (i : Nat) :
    (evC2 (CC call ext k) (kp2 27) 0 k (subC (fnCode PP 27) [1, 0, 1, 0, 0]) Out2 (sl 0 83 [(1, .var 0 0), (3, .int .i64 i)]) [.cel (ePr p)] (rnd 0)) =
    br (decide ((↑i : Int) < (↑p.counters.length : Int)))
  (br (decide (0 ≤ (↑i : Int) ∧ (↑i : Int) < (↑p.counters.length : Int)))
    (bndB ((CC call ext k).call 63 [HV.int IntKind.i64 (p.counters.getD i default).while_, HV.int IntKind.i64 p.lasting]) fun b =>
      br (!b) (some (Ex.ret, (sl 0 83 [(2, HV.bool false)]), [Ob.cel (ePr p), Ob.cel [HV.int IntKind.i64 (p.counters.getD i default).while_, HV.int IntKind.i64 (p.counters.getD i default).limit, HV.int IntKind.i64 (p.counters.getD i default).then_]]))
        (br (decide ((p.counters.getD i default).limit < 1)) (some (Ex.ret, (sl 0 83 [(2, HV.bool false)]), [Ob.cel (ePr p), Ob.cel [HV.int IntKind.i64 (p.counters.getD i default).while_, HV.int IntKind.i64 (p.counters.getD i default).limit, HV.int IntKind.i64 (p.counters.getD i default).then_]]))
          (br (decide (100 < (p.counters.getD i default).limit)) (some (Ex.ret, (sl 0 83 [(2, HV.bool false)]), [Ob.cel (ePr p), Ob.cel [HV.int IntKind.i64 (p.counters.getD i default).while_, HV.int IntKind.i64 (p.counters.getD i default).limit, HV.int IntKind.i64 (p.counters.getD i default).then_]]))
            (bndB ((CC call ext k).call 63 [HV.int IntKind.i64 (p.counters.getD i default).then_, HV.int IntKind.i64 p.flags]) fun b => br (!b) (some (Ex.ret, (sl 0 83 [(2, HV.bool false)]), [Ob.cel (ePr p), Ob.cel [HV.int IntKind.i64 (p.counters.getD i default).while_, HV.int IntKind.i64 (p.counters.getD i default).limit, HV.int IntKind.i64 (p.counters.getD i default).then_]])) (br (decide ((p.counters.getD i default).then_ < p.lasting)) (some (Ex.ret, (sl 0 83 [(2, HV.bool false)]), [Ob.cel (ePr p), Ob.cel [HV.int IntKind.i64 (p.counters.getD i default).while_, HV.int IntKind.i64 (p.counters.getD i default).limit, HV.int IntKind.i64 (p.counters.getD i default).then_]])) (some (Ex.normal, (sl 0 83 [(1, HV.var 0 0), (3, HV.int IntKind.i64 (IntKind.i64.wrap ((↑i : Int) + 1)))]), [Ob.cel [HV.int IntKind.i64 p.flags, HV.int IntKind.i64 p.lasting, HV.lst 1 p.first.length fun i => [HV.int IntKind.i64 (p.first.getD i default)], HV.lst 1 p.over.length fun i => [HV.int IntKind.i64 (p.over.getD i default)], HV.int IntKind.i64 p.from_, HV.lst 1 p.files.length fun i => eStr (p.files.getD i default), HV.lst 4 p.rules.length fun i => eRule (p.rules.getD i default), HV.lst 3 p.counters.length fun i => eCounter (p.counters.getD i default), HV.lst 4 p.users.length fun i => eUser (p.users.getD i default), HV.lst 7 p.notes.length fun i => eItem (p.notes.getD i default)]])))))))
    none)
  (some (Ex.exit 0, (sl 0 83 [(1, HV.var 0 0), (3, HV.int IntKind.i64 (↑i : Int)), (11, HV.bool (decide ((↑i : Int) < (↑p.counters.length : Int))))]), [Ob.cel (ePr p)])) := by kernel_rfl
theorem m3 (call : Nat → List HV → Option HV) (ext : Ext2) (k : Nat) (p : Pr) (i : Nat) (v : HV) :
    (evC2 (CC call ext k) (kp2 27) 0 k (subC (fnCode PP 27) [1, 1, 0, 0]) Out2 (sl 0 83 [(1, .var 0 0), (3, .int .i64 i), (11, v)]) [.cel (ePr p)] fin2) =
    some (Ex.normal, (sl 0 83 [(1, HV.var 0 0), (5, HV.int IntKind.i64 (0))]), [Ob.cel (ePr p)]) := by kernel_rfl
theorem m4 (call : Nat → List HV → Option HV) (ext : Ext2) (k : Nat) (p : Pr) (i : Nat) :
    (evC2 (CC call ext k) (kp2 27) 0 k (subC (fnCode PP 27) [1, 1, 0, 1, 0, 0]) Out2 (sl 0 83 [(1, .var 0 0), (5, .int .i64 i)]) [.cel (ePr p)] (rnd 0)) =
    br (decide ((↑i : Int) < (↑p.users.length : Int)))
  (br (decide (0 ≤ (↑i : Int) ∧ (↑i : Int) < (↑p.users.length : Int)))
    (bndB ((CC call ext k).call 64 [HV.lst 2 (p.users.getD i default).while_.length fun i_1 => eLit ((p.users.getD i default).while_.getD i_1 default), HV.int IntKind.i64 p.lasting]) fun b =>
      br (!b) (some (Ex.ret, (sl 0 83 [(2, HV.bool false)]), [Ob.cel (ePr p), Ob.cel [HV.str (p.users.getD i default).item, HV.int IntKind.i64 (p.users.getD i default).event, encL 2 eLit (p.users.getD i default).while_, HV.int IntKind.i64 (p.users.getD i default).then_]]))
        (bndB ((CC call ext k).call 63 [HV.int IntKind.i64 (p.users.getD i default).then_, HV.int IntKind.i64 p.flags]) fun b => br (!b) (some (Ex.ret, (sl 0 83 [(2, HV.bool false)]), [Ob.cel (ePr p), Ob.cel [HV.str (p.users.getD i default).item, HV.int IntKind.i64 (p.users.getD i default).event, encL 2 eLit (p.users.getD i default).while_, HV.int IntKind.i64 (p.users.getD i default).then_]])) (br (decide ((p.users.getD i default).then_ < p.lasting)) (some (Ex.ret, (sl 0 83 [(2, HV.bool false)]), [Ob.cel (ePr p), Ob.cel [HV.str (p.users.getD i default).item, HV.int IntKind.i64 (p.users.getD i default).event, encL 2 eLit (p.users.getD i default).while_, HV.int IntKind.i64 (p.users.getD i default).then_]])) (some (Ex.normal, (sl 0 83 [(1, HV.var 0 0), (5, HV.int IntKind.i64 (IntKind.i64.wrap ((↑i : Int) + 1)))]), [Ob.cel [HV.int IntKind.i64 p.flags, HV.int IntKind.i64 p.lasting, HV.lst 1 p.first.length fun i => [HV.int IntKind.i64 (p.first.getD i default)], HV.lst 1 p.over.length fun i => [HV.int IntKind.i64 (p.over.getD i default)], HV.int IntKind.i64 p.from_, HV.lst 1 p.files.length fun i => eStr (p.files.getD i default), HV.lst 4 p.rules.length fun i => eRule (p.rules.getD i default), HV.lst 3 p.counters.length fun i => eCounter (p.counters.getD i default), HV.lst 4 p.users.length fun i => eUser (p.users.getD i default), HV.lst 7 p.notes.length fun i => eItem (p.notes.getD i default)]])))))
    none)
  (some (Ex.exit 2, (sl 0 83 [(1, HV.var 0 0), (5, HV.int IntKind.i64 (↑i : Int)), (54, HV.bool (decide ((↑i : Int) < (↑p.users.length : Int))))]), [Ob.cel (ePr p)])) := by kernel_rfl
theorem m5 (call : Nat → List HV → Option HV) (ext : Ext2) (k : Nat) (p : Pr) (i : Nat) (v : HV) :
    (evC2 (CC call ext k) (kp2 27) 0 k (subC (fnCode PP 27) [1, 1, 1, 0]) Out2 (sl 0 83 [(1, .var 0 0), (5, .int .i64 i), (54, v)]) [.cel (ePr p)] fin2) =
    some (Ex.normal, (sl 0 83 [(2, HV.bool true)]), [Ob.cel (ePr p)]) := by kernel_rfl
variable {ext : Ext2}
theorem f27 (hX : Xok X) {k : Nat} {k2 : Nat} (hx : ext 27 = none) (hk : BB + 4 ≤ k) (hk2 : BB + 4 ≤ k2) (p : Pr) (hp : OkPr p) : closedR (callX EE (callP PP X FF k2) ext k 27 [.agg (ePr p)] []) = some (.bool (endsB p)) := by
  obtain ⟨k, rfl, hk⟩ := fuel_pos hk
  suffices hs : callX EE (callP PP X FF k2) ext (k + 1) 27 [.agg (ePr p)] [] = some (.bool (endsB p), []) by rw [hs]; rfl
  rw [callX_eq hx rfl Go.Proofs.Try.func27]
  have hl1 := hp.counters
  have hl2 := hp.users
  unfold Len at hl1 hl2
  have hres : ∀ (b : Bool) (st : List Ob), retX PP 0 Go.Proofs.Try.f27.results.toList (sl 0 83 [(2, .bool b)]) st = some (.bool b, []) := fun b st => by kernel_rfl
  refine Giv.eq ?_
  refine Giv.bodyX (C := CC (callP PP X FF k2) ext k) (kp := kp2 27) c27 ?_
  refine Giv.seqE a0 (m0 _ ext k p) ?_
  refine Giv.sq a1 ?_
  refine Giv.seqE a10 (m1 _ ext k p) ?_
  refine Giv.scan3 al0 (E := fun i => (sl 0 83 [(1, .var 0 0), (3, .int .i64 i)])) (st0 := [.cel (ePr p)]) p.counters.length (fun i => endT p (p.counters.getD i default)) (by kernel_rfl) (by unfold BB at hk; omega) (fun i o => o.1 = .ret ∧ ∃ st, o.2 = ((sl 0 83 [(2, .bool false)]), st)) (fun o => o.1 = .exit 0 ∧ ∃ v, o.2 = ((sl 0 83 [(1, .var 0 0), (3, .int .i64 p.counters.length), (11, v)]), [.cel (ePr p)])) ?_ ?_ ?_ ?_
  · intro i hi
    refine Giv.of_eq (m2 _ ext k p i) ?_
    refine Giv.t (by omega) ?_
    refine Giv.t (by omega) ?_
    refine Giv.B (f63 (k := k2) hX (by omega) _ _) ?_
    have hw : IntKind.i64.wrap ((i : Int) + 1) = ((i + 1 : Nat) : Int) := by rw [wrap64 (by omega) (by omega)]; rfl
    refine Giv.b (fun h1 => ?_) (fun h1 => ?_)
    · exact Giv.ok (.inr ⟨by unfold endT; rw [h1]; rfl, (by intro h; cases h), rfl, _, rfl⟩)
    refine Giv.p (fun h2 => ?_) (fun h2 => ?_)
    · exact Giv.ok (.inr ⟨by unfold endT; rw [h1, decide_eq_true h2]; rfl, (by intro h; cases h), rfl, _, rfl⟩)
    refine Giv.p (fun h3 => ?_) (fun h3 => ?_)
    · exact Giv.ok (.inr ⟨by unfold endT; rw [h1, decide_eq_false h2, decide_eq_true h3]; rfl, (by intro h; cases h), rfl, _, rfl⟩)
    refine Giv.B (f63 (k := k2) hX (by omega) _ _) ?_
    refine Giv.b (fun h4 => ?_) (fun h4 => ?_)
    · exact Giv.ok (.inr ⟨by unfold endT; rw [h1, decide_eq_false h2, decide_eq_false h3, h4]; rfl, (by intro h; cases h), rfl, _, rfl⟩)
    refine Giv.p (fun h5 => ?_) (fun h5 => ?_)
    · exact Giv.ok (.inr ⟨by unfold endT; rw [h1, decide_eq_false h2, decide_eq_false h3, h4, decide_eq_true h5]; rfl, (by intro h; cases h), rfl, _, rfl⟩)
    · refine Giv.ok (.inl ⟨by unfold endT; rw [h1, decide_eq_false h2, decide_eq_false h3, h4, decide_eq_false h5]; rfl, ?_⟩)
      rw [hw]; rfl
  · refine Giv.of_eq (m2 _ ext k p _) ?_
    refine Giv.p (fun h => absurd h (by omega)) (fun _ => ?_)
    exact Giv.ok ⟨(by intro h; cases h), rfl, _, rfl⟩
  · rintro i x e st hi hT _ ⟨hx, st', h⟩
    have hx : x = .ret := hx
    subst hx
    injection h with he hs; subst he hs
    refine Giv.of_eq (hres false _) (Giv.ok ?_)
    have : (p.counters.all fun c => !endT p c) = false := all_not hi (by simpa using hT)
    unfold endsB
    rw [this]; rfl
  · rintro x e st hall ⟨hx, v, h⟩
    have hx : x = .exit 0 := hx
    subst hx
    injection h with he hs; subst he hs
    have hcb : (p.counters.all fun c => !endT p c) = true := all_of (fun j hj => by simpa using hall j hj)
    show Giv (evC2 _ _ _ _ (subC (fnCode PP 27) [1, 1]) _ _ _ _) _
    refine Giv.sq a11 ?_
    refine Giv.seqE a110 (m3 _ ext k p _ v) ?_
    refine Giv.scan3 al2 (E := fun i => (sl 0 83 [(1, .var 0 0), (5, .int .i64 i)])) (st0 := [.cel (ePr p)]) p.users.length (fun i => endU p (p.users.getD i default)) (by kernel_rfl) (by unfold BB at hk; omega) (fun i o => o.1 = .ret ∧ ∃ st, o.2 = ((sl 0 83 [(2, .bool false)]), st)) (fun o => o.1 = .exit 2 ∧ ∃ v, o.2 = ((sl 0 83 [(1, .var 0 0), (5, .int .i64 p.users.length), (54, v)]), [.cel (ePr p)])) ?_ ?_ ?_ ?_
    · intro i hi
      have hlu := hp.user _ (getD_mem' hi)
      refine Giv.of_eq (m4 _ ext k p i) ?_
      refine Giv.t (by omega) ?_
      refine Giv.t (by omega) ?_
      refine Giv.B (f64 (k := k2) hX (by omega) (p.users.getD i default).while_ hlu _) ?_
      have hw : IntKind.i64.wrap ((i : Int) + 1) = ((i + 1 : Nat) : Int) := by rw [wrap64 (by omega) (by omega)]; rfl
      refine Giv.b (fun h1 => ?_) (fun h1 => ?_)
      · exact Giv.ok (.inr ⟨by unfold endU; rw [h1]; rfl, (by intro h; cases h), rfl, _, rfl⟩)
      refine Giv.B (f63 (k := k2) hX (by omega) _ _) ?_
      refine Giv.b (fun h4 => ?_) (fun h4 => ?_)
      · exact Giv.ok (.inr ⟨by unfold endU; rw [h1, h4]; rfl, (by intro h; cases h), rfl, _, rfl⟩)
      refine Giv.p (fun h5 => ?_) (fun h5 => ?_)
      · exact Giv.ok (.inr ⟨by unfold endU; rw [h1, h4, decide_eq_true h5]; rfl, (by intro h; cases h), rfl, _, rfl⟩)
      · refine Giv.ok (.inl ⟨by unfold endU; rw [h1, h4, decide_eq_false h5]; rfl, ?_⟩)
        rw [hw]; rfl
    · refine Giv.of_eq (m4 _ ext k p _) ?_
      refine Giv.p (fun h => absurd h (by omega)) (fun _ => ?_)
      exact Giv.ok ⟨(by intro h; cases h), rfl, _, rfl⟩
    · rintro i x e st hi hT _ ⟨hx, st', h⟩
      have hx : x = .ret := hx
      subst hx
      injection h with he hs; subst he hs
      refine Giv.of_eq (hres false _) (Giv.ok ?_)
      have : (p.users.all fun u => !endU p u) = false := all_not hi (by simpa using hT)
      unfold endsB
      rw [hcb, this]; rfl
    · rintro x e st hall ⟨hx, v, h⟩
      have hx : x = .exit 2 := hx
      subst hx
      injection h with he hs; subst he hs
      have hub : (p.users.all fun u => !endU p u) = true := all_of (fun j hj => by simpa using hall j hj)
      show Giv (evC2 _ _ _ _ (subC (fnCode PP 27) [1, 1, 1]) _ _ _ _) _
      refine Giv.seqE a111 (m5 _ ext k p _ v) ?_
      refine Giv.of_eq (hres true _) (Giv.ok ?_)
      unfold endsB
      rw [hcb, hub]; rfl
end
end Go.Rul
end

section
namespace Go.Rul
open Go.Eng
set_option maxRecDepth 100000
set_option linter.unusedVariables false

def readsB (n : Int) (r : Rule) : Bool := r.ifs.any fun x => decide (x.flag = n)
def writesB (n : Int) (r : Rule) : Bool := r.thens.any fun x => decide (x.flag = n)
def rdB (p : Pr) (n : Int) : List Int := Lib.compact (srt (holdsL (readsB n) p.rules))
def wrB (p : Pr) (n : Int) : List Int := Lib.compact (srt (holdsL (writesB n) p.rules))
def strT (p : Pr) (i : Nat) : Bool := cond (decide (((wrB p i).length : Int) = 0)) false (cond (decide ((i : Int) < p.lasting)) (!decide ((wrB p i).getD 0 default = (p.rules.getD (p.rules.length - 1) default).stratum)) (decide (0 < ((rdB p i).length : Int)) && decide ((rdB p i).getD 0 default ≤ (wrB p i).getD ((wrB p i).length - 1) default)))
def areB (p : Pr) : Bool := (List.range p.flags.toNat).all fun i => !strT p i
theorem wrB_len (p : Pr) (n : Int) : (wrB p n).length ≤ p.rules.length := by
  have h1 := Lib.compact_length_le (srt (holdsL (writesB n) p.rules))
  rw [srt_len] at h1
  have h2 : (holdsL (writesB n) p.rules).length ≤ p.rules.length := by unfold holdsL; rw [List.length_map]; exact List.length_filter_le _ _
  unfold wrB
  omega
section
variable {X : Ext}
theorem c34 : Go.Proofs.Try.f34.body = some (subC (fnCode PP 34) []) := by kernel_rfl
theorem g0 : subC (fnCode PP 34) [] = .seq (subC (fnCode PP 34) [0]) (subC (fnCode PP 34) [1]) := by kernel_rfl
theorem g1 : subC (fnCode PP 34) [1] = .seq (subC (fnCode PP 34) [1, 0]) (subC (fnCode PP 34) [1, 1]) := by kernel_rfl
theorem g10 : subC (fnCode PP 34) [1, 0] = .seq (subC (fnCode PP 34) [1, 0, 0]) (subC (fnCode PP 34) [1, 0, 1]) := by kernel_rfl
theorem g11 : subC (fnCode PP 34) [1, 1] = .seq (subC (fnCode PP 34) [1, 1, 0]) (subC (fnCode PP 34) [1, 1, 1]) := by kernel_rfl
theorem gl0 : subC (fnCode PP 34) [1, 0, 1] = .block 0 (.loop (subC (fnCode PP 34) [1, 0, 1, 0, 0])) := by kernel_rfl
theorem gr : subC (fnCode PP 34) [1, 0, 1, 0, 0] = .seq (subC (fnCode PP 34) [1, 0, 1, 0, 0, 0]) (subC (fnCode PP 34) [1, 0, 1, 0, 0, 1]) := by kernel_rfl
theorem gr1 : subC (fnCode PP 34) [1, 0, 1, 0, 0, 1] = .seq (subC (fnCode PP 34) [1, 0, 1, 0, 0, 1, 0]) (subC (fnCode PP 34) [1, 0, 1, 0, 0, 1, 1]) := by kernel_rfl
theorem gr11 : subC (fnCode PP 34) [1, 0, 1, 0, 0, 1, 1] = .seq (subC (fnCode PP 34) [1, 0, 1, 0, 0, 1, 1, 0]) (subC (fnCode PP 34) [1, 0, 1, 0, 0, 1, 1, 1]) := by kernel_rfl
theorem gb1 : subC (fnCode PP 34) [1, 0, 1, 0, 0, 1, 1, 0] = .block 1 (subC (fnCode PP 34) [1, 0, 1, 0, 0, 1, 1, 0, 0]) := by kernel_rfl
theorem gb10 : subC (fnCode PP 34) [1, 0, 1, 0, 0, 1, 1, 0, 0] = .seq (subC (fnCode PP 34) [1, 0, 1, 0, 0, 1, 1, 0, 0, 0]) (subC (fnCode PP 34) [1, 0, 1, 0, 0, 1, 1, 0, 0, 1]) := by kernel_rfl
theorem gb11 : subC (fnCode PP 34) [1, 0, 1, 0, 0, 1, 1, 0, 0, 1] = .seq (subC (fnCode PP 34) [1, 0, 1, 0, 0, 1, 1, 0, 0, 1, 0]) (subC (fnCode PP 34) [1, 0, 1, 0, 0, 1, 1, 0, 0, 1, 1]) := by kernel_rfl
theorem n0 (call : Nat → List HV → Option HV) (ext : Ext2) (k : Nat) (p : Pr) :
    (evC2 (CC call ext k) (kp2 34) 0 k (subC (fnCode PP 34) [0]) Out2 (sl 0 56 [(0, .agg (ePr p))]) [] fin2) =
    some (Ex.normal, (sl 0 56 [(1, HV.var 0 0)]), [Ob.cel [HV.int IntKind.i64 p.flags, HV.int IntKind.i64 p.lasting, encL 1 I64 p.first, encL 1 I64 p.over, HV.int IntKind.i64 p.from_, encL 1 eStr p.files, encL 4 eRule p.rules, encL 3 eCounter p.counters, encL 4 eUser p.users, encL 7 eItem p.notes]]) := by kernel_rfl
theorem n1 (call : Nat → List HV → Option HV) (ext : Ext2) (k : Nat) (p : Pr) :
    (evC2 (CC call ext k) (kp2 34) 0 k (subC (fnCode PP 34) [1, 0, 0]) Out2 (sl 0 56 [(1, .var 0 0)]) [.cel (ePr p)] fin2) =
    some (Ex.normal, (sl 0 56 [(1, HV.var 0 0), (7, HV.int IntKind.i64 p.flags), (8, HV.int IntKind.i64 (0))]), [Ob.cel (ePr p)]) := by kernel_rfl
theorem n2 (call : Nat → List HV → Option HV) (ext : Ext2) (k : Nat) (p : Pr) (F i : Nat) :
    (evC2 (CC call ext k) (kp2 34) 0 k (subC (fnCode PP 34) [1, 0, 1, 0, 0, 0]) Out2 (sl 0 56 [(1, .var 0 0), (7, .int .i64 F), (8, .int .i64 i)]) [.cel (ePr p)] fin2) =
    some (Ex.normal, (sl 0 56 [(1, HV.var 0 0), (7, HV.int IntKind.i64 (↑F : Int)), (8, HV.int IntKind.i64 (↑i : Int)), (9, HV.bool (decide ((↑i : Int) < (↑F : Int))))]), [Ob.cel (ePr p)]) := by kernel_rfl
theorem n3 (call : Nat → List HV → Option HV) (ext : Ext2) (k : Nat) (p : Pr) (F i : Nat) (b : Bool) :
    (evC2 (CC call ext k) (kp2 34) 0 k (subC (fnCode PP 34) [1, 0, 1, 0, 0, 1, 0]) Out2 (sl 0 56 [(1, .var 0 0), (7, .int .i64 F), (8, .int .i64 i), (9, .bool b)]) [.cel (ePr p)] fin2) =
    br b (some (Ex.normal, (sl 0 56 [(1, HV.var 0 0), (7, HV.int IntKind.i64 (↑F : Int)), (8, HV.int IntKind.i64 (↑i : Int)), (9, HV.bool b)]), [Ob.cel (ePr p)])) (some (Ex.exit 0, (sl 0 56 [(1, HV.var 0 0), (7, HV.int IntKind.i64 (↑F : Int)), (8, HV.int IntKind.i64 (↑i : Int)), (9, HV.bool b)]), [Ob.cel (ePr p)])) := by kernel_rfl
theorem n4 (call : Nat → List HV → Option HV) (ext : Ext2) (k : Nat) (p : Pr) (F i : Nat) :
    (evC2 (CC call ext k) (kp2 34) 0 k (subC (fnCode PP 34) [1, 0, 1, 0, 0, 1, 1, 0, 0, 0]) Out2 (sl 0 56 [(1, .var 0 0), (7, .int .i64 F), (8, .int .i64 i), (9, .bool true)]) [.cel (ePr p)] fin2) =
    some (Ex.normal, (sl 0 56 [(1, HV.var 0 0), (3, HV.int IntKind.i64 (↑i : Int)), (7, HV.int IntKind.i64 (↑F : Int)), (8, HV.int IntKind.i64 (↑i : Int))]), [Ob.cel (ePr p)]) := by kernel_rfl
theorem n5 (call : Nat → List HV → Option HV) (ext : Ext2) (k : Nat) (p : Pr) (F i : Nat) :
    (evC2 (CC call ext k) (kp2 34) 0 k (subC (fnCode PP 34) [1, 0, 1, 0, 0, 1, 1, 0, 0, 1, 0]) Out2 (sl 0 56 [(1, .var 0 0), (3, .int .i64 i), (7, .int .i64 F), (8, .int .i64 i)]) [.cel (ePr p)] fin2) =
    bndL 1 ((CC call ext k).call 12 [HV.agg [HV.int IntKind.i64 p.flags, HV.int IntKind.i64 p.lasting, encL 1 I64 p.first, encL 1 I64 p.over, HV.int IntKind.i64 p.from_, encL 1 eStr p.files, encL 4 eRule p.rules, encL 3 eCounter p.counters, encL 4 eUser p.users, encL 7 eItem p.notes], HV.int IntKind.i64 (↑i : Int)]) fun n f => bndL 1 ((CC call ext k).call 14 [HV.agg [HV.int IntKind.i64 p.flags, HV.int IntKind.i64 p.lasting, encL 1 I64 p.first, encL 1 I64 p.over, HV.int IntKind.i64 p.from_, encL 1 eStr p.files, encL 4 eRule p.rules, encL 3 eCounter p.counters, encL 4 eUser p.users, encL 7 eItem p.notes], HV.int IntKind.i64 (↑i : Int)]) fun n_1 f_1 => some (Ex.normal, (sl 0 56 [(1, HV.var 0 0), (3, HV.int IntKind.i64 (↑i : Int)), (4, HV.lst 1 n f), (5, HV.lst 1 n_1 f_1), (7, HV.int IntKind.i64 (↑F : Int)), (8, HV.int IntKind.i64 (↑i : Int))]), [Ob.cel (ePr p), Ob.free, Ob.free, Ob.free, Ob.free, Ob.free, Ob.free, Ob.free, Ob.free]) := by kernel_rfl
theorem n6 (call : Nat → List HV → Option HV) (ext : Ext2) (k : Nat) (p : Pr) (F i : Nat) (rd wr : List Int) :
    (evC2 (CC call ext k) (kp2 34) 0 k (subC (fnCode PP 34) [1, 0, 1, 0, 0, 1, 1, 0, 0, 1, 1]) Out2 (sl 0 56 [(1, .var 0 0), (3, .int .i64 i), (4, encL 1 I64 rd), (5, encL 1 I64 wr), (7, .int .i64 F), (8, .int .i64 i)]) [.cel (ePr p), .free, .free, .free, .free, .free, .free, .free, .free] fin2) =
    br (decide ((↑wr.length : Int) = 0)) (some (Ex.normal, (sl 0 56 [(1, HV.var 0 0), (3, HV.int IntKind.i64 (↑i : Int)), (4, encL 1 I64 rd), (5, encL 1 I64 wr), (7, HV.int IntKind.i64 (↑F : Int)), (8, HV.int IntKind.i64 (↑i : Int)), (17, HV.bool (decide ((↑wr.length : Int) = 0)))]), [Ob.cel (ePr p), Ob.free, Ob.free, Ob.free, Ob.free, Ob.free, Ob.free, Ob.free, Ob.free]))
  (br (decide ((↑i : Int) < p.lasting)) (br (decide ((0 : Int) ≤ 0 ∧ 0 < (↑wr.length : Int))) (br (decide (0 ≤ IntKind.i64.wrap ((↑p.rules.length : Int) - 1) ∧ IntKind.i64.wrap ((↑p.rules.length : Int) - 1) < (↑p.rules.length : Int))) (br (!decide (wr.getD 0 default = (p.rules.getD (IntKind.i64.wrap ((↑p.rules.length : Int) - 1)).toNat default).stratum)) (some (Ex.ret, (sl 0 56 [(2, HV.bool false)]), [Ob.cel (ePr p), Ob.free, Ob.free, Ob.free, Ob.free, Ob.free, Ob.free, Ob.free, Ob.free, Ob.free, Ob.free, Ob.free, Ob.free, Ob.free, Ob.free, Ob.free, Ob.free, Ob.free, Ob.free, Ob.free, Ob.free, Ob.free])) (some (Ex.normal, (sl 0 56 [(1, HV.var 0 0), (7, HV.int IntKind.i64 (↑F : Int)), (8, HV.int IntKind.i64 (↑i : Int)), (38, HV.bool !decide (wr.getD 0 default = (p.rules.getD (IntKind.i64.wrap ((↑p.rules.length : Int) - 1)).toNat default).stratum))]), [Ob.cel (ePr p), Ob.free, Ob.free, Ob.free, Ob.free, Ob.free, Ob.free, Ob.free, Ob.free, Ob.free, Ob.free, Ob.free, Ob.free, Ob.free, Ob.free, Ob.free, Ob.free, Ob.free, Ob.free, Ob.free, Ob.free, Ob.free]))) none) none)
    (br (decide (0 < (↑rd.length : Int))) (br (decide (0 ≤ IntKind.i64.wrap ((↑wr.length : Int) - 1) ∧ IntKind.i64.wrap ((↑wr.length : Int) - 1) < (↑wr.length : Int))) (br (decide ((0 : Int) ≤ 0 ∧ 0 < (↑rd.length : Int))) (br (decide (rd.getD 0 default ≤ wr.getD (IntKind.i64.wrap ((↑wr.length : Int) - 1)).toNat default)) (some (Ex.ret, (sl 0 56 [(2, HV.bool false)]), [Ob.cel (ePr p), Ob.free, Ob.free, Ob.free, Ob.free, Ob.free, Ob.free, Ob.free, Ob.free, Ob.free, Ob.free, Ob.free, Ob.free, Ob.free, Ob.free, Ob.free, Ob.free, Ob.free, Ob.free, Ob.free, Ob.free, Ob.free, Ob.free, Ob.free, Ob.free])) (some (Ex.normal, (sl 0 56 [(1, HV.var 0 0), (7, HV.int IntKind.i64 (↑F : Int)), (8, HV.int IntKind.i64 (↑i : Int)), (39, HV.bool (decide (rd.getD 0 default ≤ wr.getD (IntKind.i64.wrap ((↑wr.length : Int) - 1)).toNat default)))]), [Ob.cel (ePr p), Ob.free, Ob.free, Ob.free, Ob.free, Ob.free, Ob.free, Ob.free, Ob.free, Ob.free, Ob.free, Ob.free, Ob.free, Ob.free, Ob.free, Ob.free, Ob.free, Ob.free, Ob.free, Ob.free, Ob.free, Ob.free, Ob.free, Ob.free, Ob.free]))) none) none) (some (Ex.normal, (sl 0 56 [(1, HV.var 0 0), (7, HV.int IntKind.i64 (↑F : Int)), (8, HV.int IntKind.i64 (↑i : Int)), (39, HV.bool false)]), [Ob.cel (ePr p), Ob.free, Ob.free, Ob.free, Ob.free, Ob.free, Ob.free, Ob.free, Ob.free, Ob.free, Ob.free, Ob.free, Ob.free, Ob.free, Ob.free, Ob.free, Ob.free, Ob.free, Ob.free, Ob.free, Ob.free, Ob.free, Ob.free, Ob.free, Ob.free])))) := by kernel_rfl
theorem n7 (call : Nat → List HV → Option HV) (ext : Ext2) (k : Nat) (p : Pr) (F i : Nat) (v3 v4 v5 v17 v38 v39 : HV) (fr : List Ob) :
    (evC2 (CC call ext k) (kp2 34) 0 k (subC (fnCode PP 34) [1, 0, 1, 0, 0, 1, 1, 1]) Out2 (sl 0 56 [(1, .var 0 0), (3, v3), (4, v4), (5, v5), (7, .int .i64 F), (8, .int .i64 i), (17, v17), (38, v38), (39, v39)]) (.cel (ePr p) :: fr) (rnd 0)) =
    some (Ex.normal, (sl 0 56 [(1, HV.var 0 0), (7, HV.int IntKind.i64 (↑F : Int)), (8, HV.int IntKind.i64 (IntKind.i64.wrap ((↑i : Int) + 1)))]), [Ob.cel [HV.int IntKind.i64 p.flags, HV.int IntKind.i64 p.lasting, HV.lst 1 p.first.length fun i => [HV.int IntKind.i64 (p.first.getD i default)], HV.lst 1 p.over.length fun i => [HV.int IntKind.i64 (p.over.getD i default)], HV.int IntKind.i64 p.from_, HV.lst 1 p.files.length fun i => eStr (p.files.getD i default), HV.lst 4 p.rules.length fun i => eRule (p.rules.getD i default), HV.lst 3 p.counters.length fun i => eCounter (p.counters.getD i default), HV.lst 4 p.users.length fun i => eUser (p.users.getD i default), HV.lst 7 p.notes.length fun i => eItem (p.notes.getD i default)]]) := by kernel_rfl
theorem n8 (call : Nat → List HV → Option HV) (ext : Ext2) (k : Nat) (p : Pr) (F i : Nat) :
    (evC2 (CC call ext k) (kp2 34) 0 k (subC (fnCode PP 34) [1, 1, 0]) Out2 (sl 0 56 [(1, .var 0 0), (7, .int .i64 F), (8, .int .i64 i), (9, .bool false)]) [.cel (ePr p)] fin2) =
    some (Ex.normal, (sl 0 56 [(2, HV.bool true)]), [Ob.cel (ePr p)]) := by kernel_rfl
variable {ext : Ext2}
theorem f34 {k : Nat} {k2 : Nat} (hx : ext 34 = none) (hk : BB + 4 ≤ k) (p : Pr) (hl : p.rules.length ≤ 100000) (h0 : 0 ≤ p.flags) (h8 : p.flags ≤ 800)
    (h12 : ∀ i : Nat, i < p.flags → callP PP X FF k2 12 [.agg (ePr p), .int .i64 i] = some (encL 1 I64 (rdB p i))) (h14 : ∀ i : Nat, i < p.flags → callP PP X FF k2 14 [.agg (ePr p), .int .i64 i] = some (encL 1 I64 (wrB p i))) : closedR (callX EE (callP PP X FF k2) ext k 34 [.agg (ePr p)] []) = some (.bool (areB p)) := by
  obtain ⟨k, rfl, hk⟩ := fuel_pos hk
  suffices hs : callX EE (callP PP X FF k2) ext (k + 1) 34 [.agg (ePr p)] [] = some (.bool (areB p), []) by rw [hs]; rfl
  rw [callX_eq hx rfl Go.Proofs.Try.func34]
  obtain ⟨F, hF⟩ : ∃ F : Nat, (F : Int) = p.flags := ⟨p.flags.toNat, Int.toNat_of_nonneg h0⟩
  have hFt : p.flags.toNat = F := by omega
  have hres : ∀ (b : Bool) (st : List Ob), retX PP 0 Go.Proofs.Try.f34.results.toList (sl 0 56 [(2, .bool b)]) st = some (.bool b, []) := fun b st => by kernel_rfl
  refine Giv.eq ?_
  refine Giv.bodyX (C := CC (callP PP X FF k2) ext k) (kp := kp2 34) c34 ?_
  refine Giv.seqE g0 (n0 _ ext k p) ?_
  refine Giv.sq g1 ?_
  refine Giv.seqE g10 (n1 _ ext k p) ?_
  refine Giv.scan3 gl0 (E := fun i => (sl 0 56 [(1, .var 0 0), (7, .int .i64 F), (8, .int .i64 i)])) (st0 := [.cel (ePr p)]) F (strT p) (by rw [← hF]; kernel_rfl) (by unfold BB at hk; omega) (fun i o => o.1 = .ret ∧ ∃ st, o.2 = ((sl 0 56 [(2, .bool false)]), st)) (fun o => o = (.exit 0, (sl 0 56 [(1, .var 0 0), (7, .int .i64 F), (8, .int .i64 F), (9, .bool false)]), [.cel (ePr p)])) ?_ ?_ ?_ ?_
  · intro i hi
    have hw : IntKind.i64.wrap ((i : Int) + 1) = ((i + 1 : Nat) : Int) := by rw [wrap64 (by omega) (by omega)]; rfl
    refine Giv.seqE gr (n2 _ ext k p F i) ?_
    rw [decide_eq_true (by omega)]
    refine Giv.sq gr1 ?_
    refine Giv.pieceE ((n3 _ ext k p F i true).trans (br_t _ _)) ?_
    show Giv (evC2 _ _ _ _ (subC (fnCode PP 34) [1, 0, 1, 0, 0, 1, 1]) _ _ _ _) _
    refine Giv.sq gr11 ?_
    refine Giv.blkX gb1 ?_
    refine Giv.seqE gb10 (n4 _ ext k p F i) ?_
    refine Giv.seqX gb11 (Q1 := fun o => o = (.normal, (sl 0 56 [(1, .var 0 0), (3, .int .i64 i), (4, encL 1 I64 (rdB p i)), (5, encL 1 I64 (wrB p i)), (7, .int .i64 F), (8, .int .i64 i)]), [.cel (ePr p), .free, .free, .free, .free, .free, .free, .free, .free])) ?_ ?_ (fun x e st h1 h2 => absurd (congrArg Prod.fst h2) h1)
    · refine Giv.of_eq (n5 _ ext k p F i) ?_
      refine Giv.L (h12 i (by omega)) ?_
      refine Giv.L (h14 i (by omega)) ?_
      exact Giv.ok rfl
    intro e st h
    injection h with _ h; injection h with he hs; subst he hs
    have hlw := wrB_len p i
    have hlr : p.rules.length ≤ 100000 := hl
    refine Giv.pieceX (Q1 := fun o => (strT p i = false ∧ ∃ v3 v4 v5 v17 v38 v39 fr, o = (.normal, (sl 0 56 [(1, .var 0 0), (3, v3), (4, v4), (5, v5), (7, .int .i64 F), (8, .int .i64 i), (17, v17), (38, v38), (39, v39)]), .cel (ePr p) :: fr)) ∨ (strT p i = true ∧ o.1 = .ret ∧ ∃ st, o.2 = ((sl 0 56 [(2, .bool false)]), st))) ?_ ?_
    · refine Giv.of_eq (n6 _ ext k p F i (rdB p i) (wrB p i)) ?_
      refine Giv.p (fun h1 => ?_) (fun h1 => ?_)
      · exact Giv.ok (.inl ⟨by unfold strT; rw [decide_eq_true h1]; rfl, _, _, _, _, .undef, .undef, _, rfl⟩)
      have hwl : IntKind.i64.wrap (((wrB p i).length : Int) - 1) = (((wrB p i).length - 1 : Nat) : Int) := by rw [wrap64 (by omega) (by omega)]; omega
      have hrl : IntKind.i64.wrap ((p.rules.length : Int) - 1) = ((p.rules.length - 1 : Nat) : Int) := by rw [wrap64 (by omega) (by omega)]; omega
      rw [hwl, hrl]
      simp only [Int.toNat_natCast]
      refine Giv.p (fun h2 => ?_) (fun h2 => ?_)
      · refine Giv.t (by omega) ?_
        refine Giv.t (by omega) ?_
        refine Giv.b (fun h3 => ?_) (fun h3 => ?_)
        · exact Giv.ok (.inr ⟨by unfold strT; rw [decide_eq_false h1, decide_eq_true h2, h3]; rfl, rfl, _, rfl⟩)
        · exact Giv.ok (.inl ⟨by unfold strT; rw [decide_eq_false h1, decide_eq_true h2, h3]; rfl, .undef, .undef, .undef, .undef, _, .undef, _, rfl⟩)
      · refine Giv.p (fun h3 => ?_) (fun h3 => ?_)
        · refine Giv.t (by omega) ?_
          refine Giv.t (by omega) ?_
          refine Giv.p (fun h4 => ?_) (fun h4 => ?_)
          · exact Giv.ok (.inr ⟨by unfold strT; rw [decide_eq_false h1, decide_eq_false h2, decide_eq_true h3, decide_eq_true h4]; rfl, rfl, _, rfl⟩)
          · exact Giv.ok (.inl ⟨by unfold strT; rw [decide_eq_false h1, decide_eq_false h2, decide_eq_true h3, decide_eq_false h4]; rfl, .undef, .undef, .undef, .undef, .undef, _, _, rfl⟩)
        · exact Giv.ok (.inl ⟨by unfold strT; rw [decide_eq_false h1, decide_eq_false h2, decide_eq_false h3]; rfl, .undef, .undef, .undef, .undef, .undef, _, _, rfl⟩)
    · rintro x e st (⟨hT, v3, v4, v5, v17, v38, v39, fr, h⟩ | ⟨hT, hx, s, h⟩)
      · injection h with hx h; injection h with he hs; subst hx he hs
        show Giv (evC2 _ _ _ _ (subC (fnCode PP 34) [1, 0, 1, 0, 0, 1, 1, 1]) _ _ _ _) _
        refine Giv.of_eq (n7 _ ext k p F i v3 v4 v5 v17 v38 v39 fr) (Giv.ok (.inl ⟨hT, ?_⟩))
        rw [hw]; rfl
      · have hx : x = .ret := hx
        subst hx
        injection h with he hs; subst he hs
        exact Giv.ok (.inr ⟨hT, (by intro h; cases h), rfl, _, rfl⟩)
  · refine Giv.seqE gr (n2 _ ext k p F F) ?_
    rw [decide_eq_false (by omega)]
    refine Giv.sq gr1 ?_
    refine Giv.pieceE ((n3 _ ext k p F F false).trans (br_f _ _)) ?_
    exact Giv.ok ⟨(by intro h; cases h), rfl⟩
  · rintro i x e st hi hT _ ⟨hx, st', h⟩
    have hx : x = .ret := hx
    subst hx
    injection h with he hs; subst he hs
    refine Giv.of_eq (hres false _) (Giv.ok ?_)
    unfold areB
    rw [hFt, rng_not hi hT]
  · rintro x e st hall h
    injection h with hx h; injection h with he hs; subst hx he hs
    show Giv (evC2 _ _ _ _ (subC (fnCode PP 34) [1, 1]) _ _ _ _) _
    refine Giv.seqE g11 (n8 _ ext k p F F) ?_
    refine Giv.of_eq (hres true _) (Giv.ok ?_)
    unfold areB
    rw [hFt, rng_of hall]
end
end Go.Rul
end

section
namespace Go.Rul
open Go.Eng
set_option maxRecDepth 100000
set_option linter.unusedVariables false

/-- The two interpreters together. -/
noncomputable abbrev XE : Ext := extOf EE (sortExt 72 73 3) (BB + 30)
theorem hXE : Xok XE := by
  intro f hf
  unfold FF at hf
  simp only [List.elem_eq_contains, List.contains_eq_mem, List.mem_cons, List.not_mem_nil, or_false, decide_eq_true_eq] at hf
  rcases hf with rfl | rfl | rfl | rfl | rfl | rfl | rfl | rfl | rfl | rfl | rfl | rfl | rfl | rfl | rfl | rfl | rfl | rfl | rfl | rfl | rfl | rfl | rfl | rfl | rfl | rfl | rfl | rfl | rfl | rfl | rfl | rfl | rfl | rfl | rfl | rfl | rfl | rfl | rfl | rfl | rfl | rfl | rfl | rfl | rfl | rfl | rfl | rfl | rfl | rfl | rfl | rfl | rfl | rfl | rfl | rfl | rfl | rfl | rfl | rfl | rfl | rfl | rfl | rfl <;> rfl
section
variable {X : Ext}
theorem e12 (X : Ext) (k : Nat) (p : Pr) (n : Int) :
    (body ⟨PP, callP PP X FF k⟩ k Go.Proofs.Try.f12 [.agg (ePr p), .int .i64 n]) =
    bndL 1 (callP PP X FF k 35 [HV.agg [HV.int IntKind.i64 p.flags, HV.int IntKind.i64 p.lasting, encL 1 I64 p.first, encL 1 I64 p.over, HV.int IntKind.i64 p.from_, encL 1 eStr p.files, encL 4 eRule p.rules, encL 3 eCounter p.counters, encL 4 eUser p.users, encL 7 eItem p.notes], HV.fn 36 [HV.ptr [HV.int IntKind.i64 n] 0]]) fun n f => some (HV.lst 1 n f) := by kernel_rfl
theorem e14 (X : Ext) (k : Nat) (p : Pr) (n : Int) :
    (body ⟨PP, callP PP X FF k⟩ k Go.Proofs.Try.f14 [.agg (ePr p), .int .i64 n]) =
    bndL 1 (callP PP X FF k 35 [HV.agg [HV.int IntKind.i64 p.flags, HV.int IntKind.i64 p.lasting, encL 1 I64 p.first, encL 1 I64 p.over, HV.int IntKind.i64 p.from_, encL 1 eStr p.files, encL 4 eRule p.rules, encL 3 eCounter p.counters, encL 4 eUser p.users, encL 7 eItem p.notes], HV.fn 40 [HV.ptr [HV.int IntKind.i64 n] 0]]) fun n f => some (HV.lst 1 n f) := by kernel_rfl
theorem e9 (X : Ext) (k : Nat) (p : Pr) :
    (body ⟨PP, callP PP X FF k⟩ k Go.Proofs.Try.f9 [.agg (ePr p)]) =
    bndB (callP PP X FF k 28 [HV.int IntKind.i64 p.flags, HV.int IntKind.i64 (0), HV.int IntKind.i64 (801)]) fun b => br (!b) (some (HV.bool false)) (bndB (callP PP X FF k 28 [HV.int IntKind.i64 p.lasting, HV.int IntKind.i64 (0), HV.int IntKind.i64 (IntKind.i64.wrap (p.flags + 1))]) fun b => br (!b) (some (HV.bool false)) (bndB (callP PP X FF k 28 [HV.int IntKind.i64 p.from_, HV.int IntKind.i64 (1), HV.int IntKind.i64 (21)]) fun b => br (!b) (some (HV.bool false)) (bndB (callP PP X FF k 29 [HV.agg [HV.int IntKind.i64 p.flags, HV.int IntKind.i64 p.lasting, encL 1 I64 p.first, encL 1 I64 p.over, HV.int IntKind.i64 p.from_, encL 1 eStr p.files, encL 4 eRule p.rules, encL 3 eCounter p.counters, encL 4 eUser p.users, encL 7 eItem p.notes], HV.lst 1 p.first.length fun i => [HV.int IntKind.i64 (p.first.getD i default)]]) fun b => br b (bndB (callP PP X FF k 29 [HV.agg [HV.int IntKind.i64 p.flags, HV.int IntKind.i64 p.lasting, encL 1 I64 p.first, encL 1 I64 p.over, HV.int IntKind.i64 p.from_, encL 1 eStr p.files, encL 4 eRule p.rules, encL 3 eCounter p.counters, encL 4 eUser p.users, encL 7 eItem p.notes], HV.lst 1 p.over.length fun i => [HV.int IntKind.i64 (p.over.getD i default)]]) fun b => br b (bndB (callP PP X FF k 30 [HV.agg [HV.int IntKind.i64 p.flags, HV.int IntKind.i64 p.lasting, encL 1 I64 p.first, encL 1 I64 p.over, HV.int IntKind.i64 p.from_, encL 1 eStr p.files, encL 4 eRule p.rules, encL 3 eCounter p.counters, encL 4 eUser p.users, encL 7 eItem p.notes]]) fun b => br b (bndB (callP PP X FF k 31 [HV.agg [HV.int IntKind.i64 p.flags, HV.int IntKind.i64 p.lasting, encL 1 I64 p.first, encL 1 I64 p.over, HV.int IntKind.i64 p.from_, encL 1 eStr p.files, encL 4 eRule p.rules, encL 3 eCounter p.counters, encL 4 eUser p.users, encL 7 eItem p.notes]]) fun b => br b (bndB (callP PP X FF k 32 [HV.agg [HV.int IntKind.i64 p.flags, HV.int IntKind.i64 p.lasting, encL 1 I64 p.first, encL 1 I64 p.over, HV.int IntKind.i64 p.from_, encL 1 eStr p.files, encL 4 eRule p.rules, encL 3 eCounter p.counters, encL 4 eUser p.users, encL 7 eItem p.notes]]) fun b => br b (bndB (callP PP X FF k 33 [HV.agg [HV.int IntKind.i64 p.flags, HV.int IntKind.i64 p.lasting, encL 1 I64 p.first, encL 1 I64 p.over, HV.int IntKind.i64 p.from_, encL 1 eStr p.files, encL 4 eRule p.rules, encL 3 eCounter p.counters, encL 4 eUser p.users, encL 7 eItem p.notes]]) fun b => br b (bndB (callP PP X FF k 34 [HV.agg [HV.int IntKind.i64 p.flags, HV.int IntKind.i64 p.lasting, encL 1 I64 p.first, encL 1 I64 p.over, HV.int IntKind.i64 p.from_, encL 1 eStr p.files, encL 4 eRule p.rules, encL 3 eCounter p.counters, encL 4 eUser p.users, encL 7 eItem p.notes]]) fun b => some (HV.bool b)) (some (HV.bool false))) (some (HV.bool false))) (some (HV.bool false))) (some (HV.bool false))) (some (HV.bool false))) (some (HV.bool false))))) := by kernel_rfl
end
theorem r35a {k : Nat} (hk : BB + 4 ≤ k) (p : Pr) (hp : OkPr p) (hl : p.rules.length ≤ 100000) (n : Int) : callP PP XE FF (k + 1) 35 [.agg (ePr p), .fn 36 [.ptr [.int .i64 n] 0]] = some (encL 1 I64 (rdB p n)) :=
  call_of rfl (f35_36 rfl rfl rfl (by omega) p n (readsB n) hl fun r hr => f36 hXE (by omega) r (hp.rule r hr) n)
theorem r35b {k : Nat} (hk : BB + 4 ≤ k) (p : Pr) (hp : OkPr p) (hl : p.rules.length ≤ 100000) (n : Int) : callP PP XE FF (k + 1) 35 [.agg (ePr p), .fn 40 [.ptr [.int .i64 n] 0]] = some (encL 1 I64 (wrB p n)) :=
  call_of rfl (f35_40 rfl rfl rfl (by omega) p n (writesB n) hl fun r hr => f40 hXE (by omega) r (hp.rule r hr) n)
theorem f12 {k : Nat} (hk : BB + 6 ≤ k) (p : Pr) (hp : OkPr p) (hl : p.rules.length ≤ 100000) (n : Int) : callP PP XE FF k 12 [.agg (ePr p), .int .i64 n] = some (encL 1 I64 (rdB p n)) := by
  obtain ⟨k1, he, hk1⟩ := fuel_pos hk
  subst he
  rw [call_eq hXE rfl _ Go.Proofs.Try.func12, e12]
  obtain ⟨k2, he, hk2⟩ := fuel_pos hk1
  subst he
  refine Giv.eq ?_
  exact Giv.L (r35a (by omega) p hp hl n) (Giv.ok rfl)
theorem f14 {k : Nat} (hk : BB + 6 ≤ k) (p : Pr) (hp : OkPr p) (hl : p.rules.length ≤ 100000) (n : Int) : callP PP XE FF k 14 [.agg (ePr p), .int .i64 n] = some (encL 1 I64 (wrB p n)) := by
  obtain ⟨k1, he, hk1⟩ := fuel_pos hk
  subst he
  rw [call_eq hXE rfl _ Go.Proofs.Try.func14, e14]
  obtain ⟨k2, he, hk2⟩ := fuel_pos hk1
  subst he
  refine Giv.eq ?_
  exact Giv.L (r35b (by omega) p hp hl n) (Giv.ok rfl)
theorem g34 {k : Nat} (hk : BB + 7 ≤ k) (p : Pr) (hp : OkPr p) (hl : p.rules.length ≤ 100000) (h0 : 0 ≤ p.flags) (h8 : p.flags ≤ 800) : callP PP XE FF k 34 [.agg (ePr p)] = some (.bool (areB p)) := by
  obtain ⟨k, rfl, hk⟩ := fuel_pos hk
  exact call_of rfl (f34 rfl (by omega) p hl h0 h8 (fun i _ => f12 (by omega) p hp hl i) (fun i _ => f14 (by omega) p hp hl i))
/-- Whether a program may be, as the program has it. -/
def ruB (p : Pr) : Bool := inB p.flags 0 801 && (inB p.lasting 0 (p.flags + 1) && (inB p.from_ 1 21 && (risB p.first p.lasting && (risB p.over p.lasting && (filesB p.files && (rulesB p && (p.counters.all (counterB p) && (p.users.all (userB p) && areB p))))))))
theorem inB_iff {n lo hi : Int} : inB n lo hi = true ↔ lo ≤ n ∧ n < hi := by unfold inB; simp
theorem f9 {k : Nat} (hk : BB + 12 ≤ k) (p : Pr) (hp : OkPr p) (hl : p.rules.length ≤ 100000) : callP PP XE FF k 9 [.agg (ePr p)] = some (.bool (ruB p)) := by
  obtain ⟨k, rfl, hk⟩ := fuel_pos hk
  rw [call_eq hXE rfl _ Go.Proofs.Try.func9, e9]
  refine Giv.eq ?_
  unfold ruB
  refine Giv.B (f28 hXE (by omega) _ _ _) ?_
  cases h1 : inB p.flags 0 801 with
  | false => exact Giv.tt rfl (Giv.ok rfl)
  | true =>
  refine Giv.ff rfl ?_
  obtain ⟨ha, hb⟩ := inB_iff.1 h1
  rw [wrap64 (x := p.flags + 1) (by omega) (by omega)]
  refine Giv.B (f28 hXE (by omega) _ _ _) ?_
  cases h2 : inB p.lasting 0 (p.flags + 1) with
  | false => exact Giv.tt rfl (Giv.ok rfl)
  | true =>
  refine Giv.ff rfl ?_
  refine Giv.B (f28 hXE (by omega) _ _ _) ?_
  cases h3 : inB p.from_ 1 21 with
  | false => exact Giv.tt rfl (Giv.ok rfl)
  | true =>
  refine Giv.ff rfl ?_
  refine Giv.B (f29 hXE (by omega) p p.first hp.first) ?_
  cases h4 : risB p.first p.lasting with
  | false => exact Giv.ff rfl (Giv.ok rfl)
  | true =>
  refine Giv.tt rfl ?_
  refine Giv.B (f29 hXE (by omega) p p.over hp.over) ?_
  cases h5 : risB p.over p.lasting with
  | false => exact Giv.ff rfl (Giv.ok rfl)
  | true =>
  refine Giv.tt rfl ?_
  refine Giv.B (f30 hXE (by omega) p hp) ?_
  cases h6 : filesB p.files with
  | false => exact Giv.ff rfl (Giv.ok rfl)
  | true =>
  refine Giv.tt rfl ?_
  refine Giv.B (f31 hXE (by omega) p hp) ?_
  cases h7 : rulesB p with
  | false => exact Giv.ff rfl (Giv.ok rfl)
  | true =>
  refine Giv.tt rfl ?_
  refine Giv.B (f32 hXE (by omega) p hp) ?_
  cases h8 : p.counters.all (counterB p) with
  | false => exact Giv.ff rfl (Giv.ok rfl)
  | true =>
  refine Giv.tt rfl ?_
  refine Giv.B (f33 hXE (by omega) p hp) ?_
  cases h9 : p.users.all (userB p) with
  | false => exact Giv.ff rfl (Giv.ok rfl)
  | true =>
  refine Giv.tt rfl ?_
  refine Giv.B (g34 (by omega) p hp hl ha (by omega)) ?_
  exact Giv.ok rfl
end Go.Rul
end
