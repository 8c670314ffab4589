/- Programs of rules: what is known; the law. -/
import Derived.Test.YtokpjbddoppdpaaRulE
set_option linter.unusedVariables false
set_option linter.unusedSimpArgs false
set_option linter.unusedSectionVars false
section
namespace Go.Rul
open Go.Eng
set_option maxRecDepth 100000
set_option linter.unusedVariables false

/-- A program without counters and users, as the law writes it. -/
def eN (q : Pr) : List HV := [.int .i64 q.flags, .int .i64 q.lasting, encL 1 I64 q.first, encL 1 I64 q.over, .int .i64 q.from_, encL 1 eStr q.files, encL 4 eRule q.rules, .nl 3 (eCounter default), .nl 4 (eUser default), encL 7 eItem q.notes]
section
variable {X : Ext}
theorem e10 (X : Ext) (k : Nat) :
    (body ⟨PP, callP PP X FF k⟩ k Go.Proofs.Try.f10 []) =
    bndB (callP PP X FF k 9 [HV.agg [HV.int IntKind.i64 (2), HV.int IntKind.i64 (1), HV.lst 1 0 fun x => [HV.int IntKind.i64 (0)], HV.lst 1 0 fun x => [HV.int IntKind.i64 (0)], HV.int IntKind.i64 (1), HV.lst 1 0 fun x => [HV.str ByteArray.empty], HV.lst 4 1 (nthC [[HV.int IntKind.i64 (1), HV.lst 2 1 (nthC [[HV.int IntKind.i64 (1), HV.bool false]] [HV.int IntKind.i64 (0), HV.bool false]), HV.lst 3 0 fun x => [HV.str ByteArray.empty, HV.str ByteArray.empty, HV.int IntKind.i64 (0)], HV.lst 2 1 (nthC [[HV.int IntKind.i64 (1), HV.bool true]] [HV.int IntKind.i64 (0), HV.bool false])]] [HV.int IntKind.i64 (0), HV.lst 2 0 fun x => [HV.int IntKind.i64 (0), HV.bool false], HV.lst 3 0 fun x => [HV.str ByteArray.empty, HV.str ByteArray.empty, HV.int IntKind.i64 (0)], HV.lst 2 0 fun x => [HV.int IntKind.i64 (0), HV.bool false]]), HV.lst 3 0 fun x => [HV.int IntKind.i64 (0), HV.int IntKind.i64 (0), HV.int IntKind.i64 (0)], HV.lst 4 0 fun x => [HV.str ByteArray.empty, HV.int IntKind.i64 (0), HV.lst 2 0 fun x => [HV.int IntKind.i64 (0), HV.bool false], HV.int IntKind.i64 (0)], HV.lst 7 0 fun x => [HV.str ByteArray.empty, HV.int IntKind.i64 (0), HV.str ByteArray.empty, HV.bool false, HV.int IntKind.i64 (0), HV.lst 2 0 fun x => [HV.lst 2 0 fun x => [HV.str ByteArray.empty, HV.int IntKind.i64 (0)], HV.lst 3 0 fun x => [HV.str ByteArray.empty, HV.str ByteArray.empty, HV.int IntKind.i64 (0)]], HV.lst 2 0 fun x => [HV.lst 2 0 fun x => [HV.str ByteArray.empty, HV.int IntKind.i64 (0)], HV.lst 3 0 fun x => [HV.str ByteArray.empty, HV.str ByteArray.empty, HV.int IntKind.i64 (0)]]]]]) fun b =>
  br (!b)
    (bndB (callP PP X FF k 9 [HV.agg [HV.int IntKind.i64 (0), HV.int IntKind.i64 (0), HV.lst 1 0 fun x => [HV.int IntKind.i64 (0)], HV.lst 1 0 fun x => [HV.int IntKind.i64 (0)], HV.int IntKind.i64 (1), HV.lst 1 0 fun x => [HV.str ByteArray.empty], HV.lst 4 0 fun x => [HV.int IntKind.i64 (0), HV.lst 2 0 fun x => [HV.int IntKind.i64 (0), HV.bool false], HV.lst 3 0 fun x => [HV.str ByteArray.empty, HV.str ByteArray.empty, HV.int IntKind.i64 (0)], HV.lst 2 0 fun x => [HV.int IntKind.i64 (0), HV.bool false]], HV.lst 3 0 fun x => [HV.int IntKind.i64 (0), HV.int IntKind.i64 (0), HV.int IntKind.i64 (0)], HV.lst 4 0 fun x => [HV.str ByteArray.empty, HV.int IntKind.i64 (0), HV.lst 2 0 fun x => [HV.int IntKind.i64 (0), HV.bool false], HV.int IntKind.i64 (0)], HV.lst 7 0 fun x => [HV.str ByteArray.empty, HV.int IntKind.i64 (0), HV.str ByteArray.empty, HV.bool false, HV.int IntKind.i64 (0), HV.lst 2 0 fun x => [HV.lst 2 0 fun x => [HV.str ByteArray.empty, HV.int IntKind.i64 (0)], HV.lst 3 0 fun x => [HV.str ByteArray.empty, HV.str ByteArray.empty, HV.int IntKind.i64 (0)]], HV.lst 2 0 fun x => [HV.lst 2 0 fun x => [HV.str ByteArray.empty, HV.int IntKind.i64 (0)], HV.lst 3 0 fun x => [HV.str ByteArray.empty, HV.str ByteArray.empty, HV.int IntKind.i64 (0)]]]]]) fun b =>
      br b
        (bndL 1 (callP PP X FF k 12 [HV.agg [HV.int IntKind.i64 (2), HV.int IntKind.i64 (1), HV.lst 1 0 fun x => [HV.int IntKind.i64 (0)], HV.lst 1 0 fun x => [HV.int IntKind.i64 (0)], HV.int IntKind.i64 (1), HV.lst 1 0 fun x => [HV.str ByteArray.empty], HV.lst 4 1 (nthC [[HV.int IntKind.i64 (1), HV.lst 2 1 (nthC [[HV.int IntKind.i64 (1), HV.bool false]] [HV.int IntKind.i64 (0), HV.bool false]), HV.lst 3 0 fun x => [HV.str ByteArray.empty, HV.str ByteArray.empty, HV.int IntKind.i64 (0)], HV.lst 2 1 (nthC [[HV.int IntKind.i64 (1), HV.bool true]] [HV.int IntKind.i64 (0), HV.bool false])]] [HV.int IntKind.i64 (0), HV.lst 2 0 fun x => [HV.int IntKind.i64 (0), HV.bool false], HV.lst 3 0 fun x => [HV.str ByteArray.empty, HV.str ByteArray.empty, HV.int IntKind.i64 (0)], HV.lst 2 0 fun x => [HV.int IntKind.i64 (0), HV.bool false]]), HV.lst 3 0 fun x => [HV.int IntKind.i64 (0), HV.int IntKind.i64 (0), HV.int IntKind.i64 (0)], HV.lst 4 0 fun x => [HV.str ByteArray.empty, HV.int IntKind.i64 (0), HV.lst 2 0 fun x => [HV.int IntKind.i64 (0), HV.bool false], HV.int IntKind.i64 (0)], HV.lst 7 0 fun x => [HV.str ByteArray.empty, HV.int IntKind.i64 (0), HV.str ByteArray.empty, HV.bool false, HV.int IntKind.i64 (0), HV.lst 2 0 fun x => [HV.lst 2 0 fun x => [HV.str ByteArray.empty, HV.int IntKind.i64 (0)], HV.lst 3 0 fun x => [HV.str ByteArray.empty, HV.str ByteArray.empty, HV.int IntKind.i64 (0)]], HV.lst 2 0 fun x => [HV.lst 2 0 fun x => [HV.str ByteArray.empty, HV.int IntKind.i64 (0)], HV.lst 3 0 fun x => [HV.str ByteArray.empty, HV.str ByteArray.empty, HV.int IntKind.i64 (0)]]]], HV.int IntKind.i64 (1)]) fun n f =>
          bndB (callP PP X FF k 11 [HV.lst 1 n f, HV.lst 1 1 (nthC [[HV.int IntKind.i64 (1)]] [HV.int IntKind.i64 (0)])]) fun b => br b (bndL 1 (callP PP X FF k 14 [HV.agg [HV.int IntKind.i64 (2), HV.int IntKind.i64 (1), HV.lst 1 0 fun x => [HV.int IntKind.i64 (0)], HV.lst 1 0 fun x => [HV.int IntKind.i64 (0)], HV.int IntKind.i64 (1), HV.lst 1 0 fun x => [HV.str ByteArray.empty], HV.lst 4 1 (nthC [[HV.int IntKind.i64 (1), HV.lst 2 1 (nthC [[HV.int IntKind.i64 (1), HV.bool false]] [HV.int IntKind.i64 (0), HV.bool false]), HV.lst 3 0 fun x => [HV.str ByteArray.empty, HV.str ByteArray.empty, HV.int IntKind.i64 (0)], HV.lst 2 1 (nthC [[HV.int IntKind.i64 (1), HV.bool true]] [HV.int IntKind.i64 (0), HV.bool false])]] [HV.int IntKind.i64 (0), HV.lst 2 0 fun x => [HV.int IntKind.i64 (0), HV.bool false], HV.lst 3 0 fun x => [HV.str ByteArray.empty, HV.str ByteArray.empty, HV.int IntKind.i64 (0)], HV.lst 2 0 fun x => [HV.int IntKind.i64 (0), HV.bool false]]), HV.lst 3 0 fun x => [HV.int IntKind.i64 (0), HV.int IntKind.i64 (0), HV.int IntKind.i64 (0)], HV.lst 4 0 fun x => [HV.str ByteArray.empty, HV.int IntKind.i64 (0), HV.lst 2 0 fun x => [HV.int IntKind.i64 (0), HV.bool false], HV.int IntKind.i64 (0)], HV.lst 7 0 fun x => [HV.str ByteArray.empty, HV.int IntKind.i64 (0), HV.str ByteArray.empty, HV.bool false, HV.int IntKind.i64 (0), HV.lst 2 0 fun x => [HV.lst 2 0 fun x => [HV.str ByteArray.empty, HV.int IntKind.i64 (0)], HV.lst 3 0 fun x => [HV.str ByteArray.empty, HV.str ByteArray.empty, HV.int IntKind.i64 (0)]], HV.lst 2 0 fun x => [HV.lst 2 0 fun x => [HV.str ByteArray.empty, HV.int IntKind.i64 (0)], HV.lst 3 0 fun x => [HV.str ByteArray.empty, HV.str ByteArray.empty, HV.int IntKind.i64 (0)]]]], HV.int IntKind.i64 (1)]) fun n f => bndB (callP PP X FF k 11 [HV.lst 1 n f, HV.lst 1 1 (nthC [[HV.int IntKind.i64 (1)]] [HV.int IntKind.i64 (0)])]) fun b => some (HV.bool b)) (some (HV.bool false)))
        (some (HV.bool false)))
    (some (HV.bool false)) := by kernel_rfl
theorem c3 : Go.Proofs.Try.f3.body = some (subC (fnCode PP 3) []) := by kernel_rfl
theorem u0 : subC (fnCode PP 3) [] = .seq (subC (fnCode PP 3) [0]) (subC (fnCode PP 3) [1]) := by kernel_rfl
theorem u1 : subC (fnCode PP 3) [1] = .seq (subC (fnCode PP 3) [1, 0]) (subC (fnCode PP 3) [1, 1]) := by kernel_rfl
theorem u11 : subC (fnCode PP 3) [1, 1] = .seq (subC (fnCode PP 3) [1, 1, 0]) (subC (fnCode PP 3) [1, 1, 1]) := by kernel_rfl
theorem u111 : subC (fnCode PP 3) [1, 1, 1] = .seq (subC (fnCode PP 3) [1, 1, 1, 0]) (subC (fnCode PP 3) [1, 1, 1, 1]) := by kernel_rfl
theorem u1111 : subC (fnCode PP 3) [1, 1, 1, 1] = .seq (subC (fnCode PP 3) [1, 1, 1, 1, 0]) (subC (fnCode PP 3) [1, 1, 1, 1, 1]) := by kernel_rfl
theorem u11111 : subC (fnCode PP 3) [1, 1, 1, 1, 1] = .seq (subC (fnCode PP 3) [1, 1, 1, 1, 1, 0]) (subC (fnCode PP 3) [1, 1, 1, 1, 1, 1]) := by kernel_rfl
theorem u111111 : subC (fnCode PP 3) [1, 1, 1, 1, 1, 1] = .seq (subC (fnCode PP 3) [1, 1, 1, 1, 1, 1, 0]) (subC (fnCode PP 3) [1, 1, 1, 1, 1, 1, 1]) := by kernel_rfl
theorem u1111111 : subC (fnCode PP 3) [1, 1, 1, 1, 1, 1, 1] = .seq (subC (fnCode PP 3) [1, 1, 1, 1, 1, 1, 1, 0]) (subC (fnCode PP 3) [1, 1, 1, 1, 1, 1, 1, 1]) := by kernel_rfl
theorem u11111111 : subC (fnCode PP 3) [1, 1, 1, 1, 1, 1, 1, 1] = .seq (subC (fnCode PP 3) [1, 1, 1, 1, 1, 1, 1, 1, 0]) (subC (fnCode PP 3) [1, 1, 1, 1, 1, 1, 1, 1, 1]) := by kernel_rfl
theorem x0 (call : Nat → List HV → Option HV) (ext : Ext2) (k : Nat) (p : Pr) :
    (evC2 (CC call ext k) (kp2 3) 0 k (subC (fnCode PP 3) [0]) Out2 (sl 0 52 [(0, .agg (ePr p))]) [] fin2) =
    some (Ex.normal, (sl 0 52 [(1, HV.var 0 0)]), [Ob.cel [HV.int IntKind.i64 p.flags, HV.int IntKind.i64 p.lasting, encL 1 I64 p.first, encL 1 I64 p.over, HV.int IntKind.i64 p.from_, encL 1 eStr p.files, encL 4 eRule p.rules, encL 3 eCounter p.counters, encL 4 eUser p.users, encL 7 eItem p.notes]]) := by kernel_rfl
theorem x1 (call : Nat → List HV → Option HV) (ext : Ext2) (k : Nat) (p : Pr) :
    (evC2 (CC call ext k) (kp2 3) 0 k (subC (fnCode PP 3) [1, 0]) Out2 (sl 0 52 [(1, .var 0 0)]) [.cel (ePr p)] fin2) =
    bndB ((CC call ext k).call 7 [HV.agg [HV.int IntKind.i64 p.flags, HV.int IntKind.i64 p.lasting, encL 1 I64 p.first, encL 1 I64 p.over, HV.int IntKind.i64 p.from_, encL 1 eStr p.files, encL 4 eRule p.rules, encL 3 eCounter p.counters, encL 4 eUser p.users, encL 7 eItem p.notes]]) fun b => br b (some (Ex.ret, (sl 0 52 [(2, HV.bool true)]), [Ob.cel (ePr p)])) (bndB ((CC call ext k).call 8 [HV.agg [HV.int IntKind.i64 p.flags, HV.int IntKind.i64 p.lasting, encL 1 I64 p.first, encL 1 I64 p.over, HV.int IntKind.i64 p.from_, encL 1 eStr p.files, encL 4 eRule p.rules, encL 3 eCounter p.counters, encL 4 eUser p.users, encL 7 eItem p.notes]]) fun b => br (!b) (some (Ex.ret, (sl 0 52 [(2, HV.bool true)]), [Ob.cel (ePr p)])) (some (Ex.normal, (sl 0 52 [(1, HV.var 0 0), (11, HV.bool !b)]), [Ob.cel (ePr p)]))) := by kernel_rfl
theorem x2 (call : Nat → List HV → Option HV) (ext : Ext2) (k : Nat) (p : Pr) (v : HV) :
    (evC2 (CC call ext k) (kp2 3) 0 k (subC (fnCode PP 3) [1, 1, 0]) Out2 (sl 0 52 [(1, .var 0 0), (11, v)]) [.cel (ePr p)] fin2) =
    some (Ex.normal, (sl 0 52 [(1, HV.var 0 0), (3, HV.var 1 0)]), [Ob.cel (ePr p), Ob.cel [HV.int IntKind.i64 p.flags, HV.int IntKind.i64 p.lasting, encL 1 I64 p.first, encL 1 I64 p.over, HV.int IntKind.i64 p.from_, encL 1 eStr p.files, encL 4 eRule p.rules, encL 3 eCounter p.counters, encL 4 eUser p.users, encL 7 eItem p.notes]]) := by kernel_rfl
theorem x3 (call : Nat → List HV → Option HV) (ext : Ext2) (k : Nat) (p q : Pr) :
    (evC2 (CC call ext k) (kp2 3) 0 k (subC (fnCode PP 3) [1, 1, 1, 0]) Out2 (sl 0 52 [(1, .var 0 0), (3, .var 1 0)]) [.cel (ePr p), .cel (ePr q)] fin2) =
    some (Ex.normal, (sl 0 52 [(1, HV.var 0 0), (3, HV.var 1 0)]), [Ob.cel (ePr p), Ob.cel [HV.int IntKind.i64 q.flags, HV.int IntKind.i64 q.lasting, encL 1 I64 q.first, encL 1 I64 q.over, HV.int IntKind.i64 q.from_, encL 1 eStr q.files, encL 4 eRule q.rules, HV.nl 3 [HV.int IntKind.i64 (0), HV.int IntKind.i64 (0), HV.int IntKind.i64 (0)], HV.nl 4 [HV.str ByteArray.empty, HV.int IntKind.i64 (0), HV.lst 2 0 fun x => [HV.int IntKind.i64 (0), HV.bool false], HV.int IntKind.i64 (0)], encL 7 eItem q.notes]]) := by kernel_rfl
theorem x4 (call : Nat → List HV → Option HV) (ext : Ext2) (k : Nat) (p q : Pr) :
    (evC2 (CC call ext k) (kp2 3) 0 k (subC (fnCode PP 3) [1, 1, 1, 1, 0]) Out2 (sl 0 52 [(1, .var 0 0), (3, .var 1 0)]) [.cel (ePr p), .cel (eN q)] fin2) =
    bndB ((CC call ext k).call 9 [HV.agg [HV.int IntKind.i64 q.flags, HV.int IntKind.i64 q.lasting, encL 1 I64 q.first, encL 1 I64 q.over, HV.int IntKind.i64 q.from_, encL 1 eStr q.files, encL 4 eRule q.rules, HV.lst 3 0 fun x => eCounter default, HV.lst 4 0 fun x => eUser default, encL 7 eItem q.notes]]) fun b => br (!b) (some (Ex.ret, (sl 0 52 [(2, HV.bool false)]), [Ob.cel (ePr p), Ob.cel (eN q)])) (some (Ex.normal, (sl 0 52 [(1, HV.var 0 0), (3, HV.var 1 0), (17, HV.bool !b)]), [Ob.cel (ePr p), Ob.cel (eN q)])) := by kernel_rfl
theorem x5 (call : Nat → List HV → Option HV) (ext : Ext2) (k : Nat) (p q : Pr) (v : HV) :
    (evC2 (CC call ext k) (kp2 3) 0 k (subC (fnCode PP 3) [1, 1, 1, 1, 1, 0]) Out2 (sl 0 52 [(1, .var 0 0), (3, .var 1 0), (17, v)]) [.cel (ePr p), .cel (eN q)] fin2) =
    some (Ex.normal, (sl 0 52 [(1, HV.var 0 0), (3, HV.var 1 0), (4, HV.int IntKind.i64 (↑p.rules.length : Int))]), [Ob.cel (ePr p), Ob.cel (eN q)]) := by kernel_rfl
theorem x6 (call : Nat → List HV → Option HV) (ext : Ext2) (k : Nat) (p q : Pr) :
    (evC2 (CC call ext k) (kp2 3) 0 k (subC (fnCode PP 3) [1, 1, 1, 1, 1, 1, 0]) Out2 (sl 0 52 [(1, .var 0 0), (3, .var 1 0), (4, .int .i64 p.rules.length)]) [.cel (ePr p), .cel (eN q)] fin2) =
    br (decide ((↑p.rules.length : Int) < 2)) (bndB ((CC call ext k).call 10 []) fun b => some (Ex.ret, (sl 0 52 [(2, HV.bool b)]), [Ob.cel (ePr p), Ob.cel (eN q), Ob.free, Ob.free, Ob.free, Ob.free, Ob.free, Ob.free, Ob.free, Ob.free, Ob.free, Ob.free, Ob.free, Ob.free, Ob.free, Ob.free, Ob.free, Ob.free, Ob.free, Ob.free, Ob.free])) (br (decide (0 ≤ IntKind.i64.wrap ((↑p.rules.length : Int) - 1) ∧ IntKind.i64.wrap ((↑p.rules.length : Int) - 1) < (↑p.rules.length : Int))) (br (decide (0 ≤ IntKind.i64.wrap ((↑p.rules.length : Int) - 2) ∧ IntKind.i64.wrap ((↑p.rules.length : Int) - 2) < (↑p.rules.length : Int))) (br (!decide ((p.rules.getD (IntKind.i64.wrap ((↑p.rules.length : Int) - 1)).toNat default).stratum = (p.rules.getD (IntKind.i64.wrap ((↑p.rules.length : Int) - 2)).toNat default).stratum)) (bndB ((CC call ext k).call 10 []) fun b => some (Ex.ret, (sl 0 52 [(2, HV.bool b)]), [Ob.cel (ePr p), Ob.cel (eN q), Ob.free, Ob.free, Ob.free, Ob.free, Ob.free, Ob.free, Ob.free, Ob.free, Ob.free, Ob.free, Ob.free, Ob.free, Ob.free, Ob.free, Ob.free, Ob.free, Ob.free, Ob.free, Ob.free])) (some (Ex.normal, (sl 0 52 [(1, HV.var 0 0), (3, HV.var 1 0), (4, HV.int IntKind.i64 (↑p.rules.length : Int)), (39, HV.bool !decide ((p.rules.getD (IntKind.i64.wrap ((↑p.rules.length : Int) - 1)).toNat default).stratum = (p.rules.getD (IntKind.i64.wrap ((↑p.rules.length : Int) - 2)).toNat default).stratum))]), [Ob.cel (ePr p), Ob.cel (eN q), Ob.free, Ob.free, Ob.free, Ob.free, Ob.free, Ob.free, Ob.free, Ob.free, Ob.free, Ob.free, Ob.free, Ob.free, Ob.free, Ob.free, Ob.free, Ob.free, Ob.free, Ob.free, Ob.free]))) none) none) := by kernel_rfl
theorem x7 (call : Nat → List HV → Option HV) (ext : Ext2) (k : Nat) (p q : Pr) (v : HV) (fr : List Ob) :
    (evC2 (CC call ext k) (kp2 3) 0 k (subC (fnCode PP 3) [1, 1, 1, 1, 1, 1, 1, 0]) Out2 (sl 0 52 [(1, .var 0 0), (3, .var 1 0), (4, .int .i64 p.rules.length), (39, v)]) (.cel (ePr p) :: .cel (eN q) :: fr) fin2) =
    br (decide (0 ≤ IntKind.i64.wrap ((↑p.rules.length : Int) - 1) ∧ IntKind.i64.wrap ((↑p.rules.length : Int) - 1) ≤ (↑p.rules.length : Int))) (br (decide ((0 : Int) ≤ 0 ∧ 0 ≤ IntKind.i64.wrap ((↑p.rules.length : Int) - 1))) (some (Ex.normal, (sl 0 52 [(3, HV.var 1 0)]), Ob.cel (ePr p) :: Ob.cel [HV.int IntKind.i64 q.flags, HV.int IntKind.i64 q.lasting, encL 1 I64 q.first, encL 1 I64 q.over, HV.int IntKind.i64 q.from_, encL 1 eStr q.files, HV.lst 4 ((IntKind.i64.wrap ((↑p.rules.length : Int) - 1)).toNat - 0) (cutF ((IntKind.i64.wrap ((↑p.rules.length : Int) - 1)).toNat - 0) 0 (fun i => eRule (p.rules.getD i default)) [HV.int IntKind.i64 (0), HV.lst 2 0 fun x => [HV.int IntKind.i64 (0), HV.bool false], HV.lst 3 0 fun x => [HV.str ByteArray.empty, HV.str ByteArray.empty, HV.int IntKind.i64 (0)], HV.lst 2 0 fun x => [HV.int IntKind.i64 (0), HV.bool false]]), HV.nl 3 (eCounter default), HV.nl 4 (eUser default), encL 7 eItem q.notes] :: fr)) none) none := by kernel_rfl
theorem x8 (call : Nat → List HV → Option HV) (ext : Ext2) (k : Nat) (q : Pr) (c : Ob) (fr : List Ob) :
    (evC2 (CC call ext k) (kp2 3) 0 k (subC (fnCode PP 3) [1, 1, 1, 1, 1, 1, 1, 1, 0]) Out2 (sl 0 52 [(3, .var 1 0)]) (c :: .cel (eN q) :: fr) fin2) =
    bndB ((CC call ext k).call 9 [HV.agg [HV.int IntKind.i64 q.flags, HV.int IntKind.i64 q.lasting, encL 1 I64 q.first, encL 1 I64 q.over, HV.int IntKind.i64 q.from_, encL 1 eStr q.files, encL 4 eRule q.rules, HV.lst 3 0 fun x => eCounter default, HV.lst 4 0 fun x => eUser default, encL 7 eItem q.notes]]) fun b => br b (bndB ((CC call ext k).call 10 []) fun b => some (Ex.normal, (sl 0 52 [(2, HV.bool b)]), c :: Ob.cel (eN q) :: fr)) (some (Ex.normal, (sl 0 52 [(2, HV.bool false)]), c :: Ob.cel (eN q) :: fr)) := by kernel_rfl
end
def kR : Rule := ⟨1, [⟨1, false⟩], [], [⟨1, true⟩]⟩
def kP : Pr := ⟨2, 1, [], [], 1, [], [kR], [], [], []⟩
def kQ : Pr := ⟨0, 0, [], [], 1, [], [], [], [], []⟩
theorem ok0 : OkPr kQ := ⟨(by unfold Len; decide), (by unfold Len; decide), (by unfold Len; decide), (by unfold Len; decide), (by unfold Len; decide), (by unfold Len; decide), (by unfold Len; decide), (fun r h => by cases h), (fun r h => by cases h)⟩
theorem ok1 : OkPr kP := ⟨(by unfold Len; decide), (by unfold Len; decide), (by unfold Len; decide), (by unfold Len; decide), (by unfold Len; decide), (by unfold Len; decide), (by unfold Len; decide), (fun r h => by
  have : r = kR := by simpa [kP] using h
  subst this
  exact ⟨(by unfold Len; decide), (by unfold Len; decide), (by unfold Len; decide)⟩), (fun r h => by cases h)⟩
theorem rd1 : rdB kP 1 = [1] := by
  have h : holdsL (readsB 1) kP.rules = [1] := by decide
  unfold rdB
  rw [h, show srt [1] = [1] from by unfold srt; simp]
  rfl
theorem wr1 : wrB kP 1 = [1] := by
  have h : holdsL (writesB 1) kP.rules = [1] := by decide
  unfold wrB
  rw [h, show srt [1] = [1] from by unfold srt; simp]
  rfl
theorem ru1 : ruB kP = false := by
  have h : strT kP 1 = true := by
    unfold strT
    rw [show ((1 : Nat) : Int) = 1 from rfl, wr1, rd1]
    decide
  have : areB kP = false := rng_not (i := 1) (by decide) h
  unfold ruB
  rw [this]
  simp
theorem ru0 : ruB kQ = true := by decide
theorem f10 {k : Nat} (hk : BB + 14 ≤ k) : callP PP XE FF k 10 [] = some (.bool true) := by
  obtain ⟨k, rfl, hk⟩ := fuel_pos hk
  rw [call_eq hXE rfl _ Go.Proofs.Try.func10, e10]
  have e1 : HV.lst 2 1 (nthC [[HV.int .i64 1, HV.bool false]] [HV.int .i64 0, HV.bool false]) = encL 2 eLit [⟨1, false⟩] := lst_nthC 2 eLit [⟨1, false⟩]
  have e2 : HV.lst 2 1 (nthC [[HV.int .i64 1, HV.bool true]] [HV.int .i64 0, HV.bool false]) = encL 2 eSet [⟨1, true⟩] := lst_nthC 2 eSet [⟨1, true⟩]
  have e4 : HV.lst 1 1 (nthC [[HV.int .i64 1]] [HV.int .i64 0]) = encL 1 I64 [1] := lst_nthC 1 I64 [1]
  rw [e1, e2, e4]
  have e3 : HV.lst 4 1 (nthC [[HV.int .i64 1, encL 2 eLit [⟨1, false⟩], HV.lst 3 0 fun x => [HV.str ByteArray.empty, HV.str ByteArray.empty, HV.int .i64 0], encL 2 eSet [⟨1, true⟩]]] [HV.int .i64 0, HV.lst 2 0 fun x => [HV.int .i64 0, HV.bool false], HV.lst 3 0 fun x => [HV.str ByteArray.empty, HV.str ByteArray.empty, HV.int .i64 0], HV.lst 2 0 fun x => [HV.int .i64 0, HV.bool false]]) = encL 4 eRule [kR] := lst_nthC 4 eRule [kR]
  rw [e3]
  refine Giv.eq ?_
  refine Giv.B (f9 (by omega) kP ok1 (by decide)) ?_
  rw [ru1]
  refine Giv.tt rfl ?_
  refine Giv.B (f9 (by omega) kQ ok0 (by decide)) ?_
  rw [ru0]
  refine Giv.tt rfl ?_
  refine Giv.L (f12 (by omega) kP ok1 (by decide) 1) ?_
  refine Giv.B (h11 (by omega) (rdB kP 1) [1] (by rw [rd1]; unfold Len; decide)) ?_
  refine Giv.tt (decide_eq_true rd1) ?_
  refine Giv.L (f14 (by omega) kP ok1 (by decide) 1) ?_
  refine Giv.B (h11 (by omega) (wrB kP 1) [1] (by rw [wr1]; unfold Len; decide)) ?_
  exact Giv.ok (by rw [decide_eq_true wr1])
end Go.Rul
end

section
namespace Go.Rul
open Go.Eng
set_option maxRecDepth 100000
set_option linter.unusedVariables false

theorem mem_compact {l : List Int} {x : Int} (h : x ∈ Lib.compact l) : x ∈ l := by
  unfold Lib.compact Lib.compactUpTo at h
  simp only [List.mem_map, List.mem_filter, List.mem_range] at h
  obtain ⟨j, ⟨hj, _⟩, rfl⟩ := h
  rw [getElem!_pos l.toArray j (by simpa using hj)]
  simp
theorem mem_srt {l : List Int} {x : Int} : x ∈ srt l ↔ x ∈ l := by unfold srt; exact (List.mergeSort_perm l _).mem_iff
theorem mem_holds {H : Rule → Bool} {l : List Rule} {x : Int} (h : x ∈ holdsL H l) : ∃ r ∈ l, H r = true ∧ x = r.stratum := by
  unfold holdsL at h
  simp only [List.mem_map, List.mem_filter] at h
  obtain ⟨r, ⟨h1, h2⟩, rfl⟩ := h
  exact ⟨r, h1, h2, rfl⟩
theorem mem_wr {p : Pr} {n x : Int} (h : x ∈ wrB p n) : ∃ r ∈ p.rules, ∃ t ∈ r.thens, t.flag = n ∧ x = r.stratum := by
  obtain ⟨r, h1, h2, h3⟩ := mem_holds (mem_srt.1 (mem_compact h))
  unfold writesB at h2
  simp only [List.any_eq_true, decide_eq_true_eq] at h2
  obtain ⟨t, h4, h5⟩ := h2
  exact ⟨r, h1, t, h4, h5, h3⟩
theorem mem_rd {p : Pr} {n x : Int} (h : x ∈ rdB p n) : ∃ r ∈ p.rules, ∃ t ∈ r.ifs, t.flag = n ∧ x = r.stratum := by
  obtain ⟨r, h1, h2, h3⟩ := mem_holds (mem_srt.1 (mem_compact h))
  unfold readsB at h2
  simp only [List.any_eq_true, decide_eq_true_eq] at h2
  obtain ⟨t, h4, h5⟩ := h2
  exact ⟨r, h1, t, h4, h5, h3⟩

/-- The highest stratum that writes is above each that writes. -/
theorem hi_fold (s : Int) (j : Nat) : ∀ (l : List SetF) (h : Nat → Int), h j ≤ (l.foldl (fun h t j => if j = t.flag.toNat then max (h j) s else h j) h) j ∧ (∀ t ∈ l, t.flag.toNat = j → s ≤ (l.foldl (fun h t j => if j = t.flag.toNat then max (h j) s else h j) h) j)
  | [], h => ⟨Int.le_refl _, fun t ht => by cases ht⟩
  | t :: l, h => by
    obtain ⟨a, b⟩ := hi_fold s j l (fun j => if j = t.flag.toNat then max (h j) s else h j)
    simp only [List.foldl_cons]
    refine ⟨Int.le_trans ?_ a, fun t' ht' he => ?_⟩
    · by_cases e : j = t.flag.toNat
      · rw [if_pos e]; omega
      · rw [if_neg e]; exact Int.le_refl _
    · rcases List.mem_cons.1 ht' with rfl | ht'
      · refine Int.le_trans ?_ a
        rw [if_pos he.symm]; omega
      · exact b t' ht' he
theorem lo_fold (s : Int) (j : Nat) : ∀ (l : List Lit) (h : Nat → Int), (l.foldl (fun h t j => if j = t.flag.toNat then min (h j) s else h j) h) j ≤ h j ∧ (∀ t ∈ l, t.flag.toNat = j → (l.foldl (fun h t j => if j = t.flag.toNat then min (h j) s else h j) h) j ≤ s)
  | [], h => ⟨Int.le_refl _, fun t ht => by cases ht⟩
  | t :: l, h => by
    obtain ⟨a, b⟩ := lo_fold s j l (fun j => if j = t.flag.toNat then min (h j) s else h j)
    simp only [List.foldl_cons]
    refine ⟨Int.le_trans a ?_, fun t' ht' he => ?_⟩
    · by_cases e : j = t.flag.toNat
      · rw [if_pos e]; omega
      · rw [if_neg e]; exact Int.le_refl _
    · rcases List.mem_cons.1 ht' with rfl | ht'
      · refine Int.le_trans a ?_
        rw [if_pos he.symm]; omega
      · exact b t' ht' he
theorem hi_rules (j : Nat) : ∀ (l : List Rule) (h : Nat → Int), h j ≤ (l.foldl (fun h r => hiR r r.thens.length h) h) j ∧ (∀ r ∈ l, ∀ t ∈ r.thens, t.flag.toNat = j → r.stratum ≤ (l.foldl (fun h r => hiR r r.thens.length h) h) j)
  | [], h => ⟨Int.le_refl _, fun t ht => by cases ht⟩
  | r :: l, h => by
    obtain ⟨a, b⟩ := hi_rules j l (hiR r r.thens.length h)
    have c := hi_fold r.stratum j r.thens h
    have e : hiR r r.thens.length h = r.thens.foldl (fun h t j => if j = t.flag.toNat then max (h j) r.stratum else h j) h := by unfold hiR; rw [List.take_length]
    rw [← e] at c
    simp only [List.foldl_cons]
    refine ⟨Int.le_trans c.1 a, fun r' hr' t ht he => ?_⟩
    rcases List.mem_cons.1 hr' with rfl | hr'
    · exact Int.le_trans (c.2 t ht he) a
    · exact b r' hr' t ht he
theorem lo_rules (j : Nat) : ∀ (l : List Rule) (h : Nat → Int), (l.foldl (fun h r => loR r r.ifs.length h) h) j ≤ h j ∧ (∀ r ∈ l, ∀ t ∈ r.ifs, t.flag.toNat = j → (l.foldl (fun h r => loR r r.ifs.length h) h) j ≤ r.stratum)
  | [], h => ⟨Int.le_refl _, fun t ht => by cases ht⟩
  | r :: l, h => by
    obtain ⟨a, b⟩ := lo_rules j l (loR r r.ifs.length h)
    have c := lo_fold r.stratum j r.ifs h
    have e : loR r r.ifs.length h = r.ifs.foldl (fun h t j => if j = t.flag.toNat then min (h j) r.stratum else h j) h := by unfold loR; rw [List.take_length]
    rw [← e] at c
    simp only [List.foldl_cons]
    refine ⟨Int.le_trans a c.1, fun r' hr' t ht he => ?_⟩
    rcases List.mem_cons.1 hr' with rfl | hr'
    · exact Int.le_trans a (c.2 t ht he)
    · exact b r' hr' t ht he
theorem hi_le {p : Pr} {r : Rule} (hr : r ∈ p.rules) {t : SetF} (ht : t ∈ r.thens) {j : Nat} (hj : t.flag = j) : r.stratum ≤ hiP p p.rules.length j := by
  unfold hiP
  rw [List.take_length]
  exact (hi_rules j p.rules _).2 r hr t ht (by omega)
theorem lo_le {p : Pr} {r : Rule} (hr : r ∈ p.rules) {t : Lit} (ht : t ∈ r.ifs) {j : Nat} (hj : t.flag = j) : loP p p.rules.length j ≤ r.stratum := by
  unfold loP
  rw [List.take_length]
  exact (lo_rules j p.rules _).2 r hr t ht (by omega)
theorem getD_memI {l : List Int} {i : Nat} (h : i < l.length) : l.getD i default ∈ l := getD_mem' h

/-- Fewer rules, the last stratum as it was: the program's answer of the strata follows. -/
theorem are_of {p q : Pr} (hf : q.flags = p.flags) (hla : q.lasting = p.lasting) (hsub : ∀ r ∈ q.rules, r ∈ p.rules) (hlast : q.rules ≠ [] → (q.rules.getD (q.rules.length - 1) default).stratum = lastS p) (hS : strataB p = true) : areB q = true := by
  unfold strataB at hS
  rw [Bool.and_eq_true, List.all_eq_true, List.all_eq_true] at hS
  obtain ⟨h1, h2⟩ := hS
  unfold areB
  rw [List.all_eq_true]
  intro i hi
  rw [List.mem_range, hf] at hi
  have hlow := h2 i (List.mem_range.2 hi)
  rw [Bool.or_eq_true, decide_eq_true_eq, decide_eq_true_eq] at hlow
  suffices h : strT q i = false by rw [h]; rfl
  unfold strT
  by_cases hw : (((wrB q i).length : Nat) : Int) = 0
  · rw [decide_eq_true hw]; rfl
  rw [decide_eq_false hw, hla]
  have hw0 : 0 < (wrB q i).length := by omega
  by_cases hil : (i : Int) < p.lasting
  · rw [decide_eq_true hil]
    obtain ⟨r, a1, t, a2, a3, a4⟩ := mem_wr (getD_memI hw0)
    have b1 := h1 r (hsub r a1)
    rw [List.all_eq_true] at b1
    have b2 := b1 t a2
    unfold oddT at b2
    simp only [Bool.not_eq_true', Bool.and_eq_false_iff, decide_eq_false_iff_not, Classical.not_not] at b2
    have b3 := b2.resolve_left (by omega)
    have hne : q.rules ≠ [] := fun e => by rw [e] at a1; cases a1
    simp only [cond_false, cond_true]
    rw [decide_eq_true (by rw [hlast hne, a4, b3])]
    rfl
  · rw [decide_eq_false hil]
    simp only [cond_false]
    rw [Bool.and_eq_false_iff]
    by_cases hr : 0 < (((rdB q i).length : Nat) : Int)
    · right
      obtain ⟨r, a1, t, a2, a3, a4⟩ := mem_wr (getD_memI (show (wrB q i).length - 1 < (wrB q i).length by omega))
      obtain ⟨r', b1, t', b2, b3, b4⟩ := mem_rd (getD_memI (show 0 < (rdB q i).length by omega))
      have c1 := hi_le (hsub r a1) a2 a3
      have c2 := lo_le (hsub r' b1) b2 b3
      have c3 := hlow.resolve_left hil
      rw [a4, b4]
      exact decide_eq_false (by omega)
    · left; exact decide_eq_false hr
end Go.Rul
end

section
namespace Go.Rul
open Go.Eng
set_option maxRecDepth 100000
set_option linter.unusedVariables false

/-- A program without counters and users, its first m rules. -/
def qOf (p : Pr) (m : Nat) : Pr := { p with counters := [], users := [], rules := p.rules.take m }
def qAll (p : Pr) : Pr := { p with counters := [], users := [] }
theorem qAll_eq (p : Pr) : qAll p = qOf p p.rules.length := by unfold qAll qOf; rw [List.take_length]
theorem getD_take {l : List Rule} {m i : Nat} (h : i < m) : (l.take m).getD i default = l.getD i default := by
  rw [List.getD_eq_getElem?_getD, List.getD_eq_getElem?_getD, List.getElem?_take, if_pos h]
theorem ok_q {p : Pr} (hp : OkPr p) (m : Nat) : OkPr (qOf p m) where
  first := hp.first
  over := hp.over
  files := hp.files
  rules := by have := hp.rules; unfold Len at *; simp only [qOf, List.length_take]; omega
  counters := by unfold Len; exact (by decide : 0 < 140737488355328)
  users := by unfold Len; exact (by decide : 0 < 140737488355328)
  notes := hp.notes
  rule := fun r hr => hp.rule r (List.mem_of_mem_take hr)
  user := fun u hu => by cases hu
theorem ru_of {p : Pr} {m : Nat} (hm : m ≤ p.rules.length) (h : refB p = true) (hlast : 0 < m → (p.rules.getD (m - 1) default).stratum = lastS p) : ruB (qOf p m) = true := by
  unfold refB at h
  simp only [Bool.and_eq_true] at h
  obtain ⟨hH, hF, hR, hS, _⟩ := h
  have hH' := hH
  unfold refH at hH'
  simp only [Bool.and_eq_true, Bool.not_eq_true', decide_eq_false_iff_not] at hH'
  obtain ⟨a1, a2, a3, a4, a5, a6, a7, a8, a9, a10⟩ := hH'
  have hlen : (p.rules.take m).length = m := by simp; omega
  have e1 : inB (qOf p m).flags 0 801 = true := inB_iff.2 ⟨by show 0 ≤ p.flags; omega, by show p.flags < 801; omega⟩
  have e2 : inB (qOf p m).lasting 0 ((qOf p m).flags + 1) = true := inB_iff.2 ⟨by show 0 ≤ p.lasting; omega, by show p.lasting < p.flags + 1; omega⟩
  have e3 : inB (qOf p m).from_ 1 21 = true := inB_iff.2 ⟨by show 1 ≤ p.from_; omega, by show p.from_ < 21; omega⟩
  have e4 : risB (qOf p m).first (qOf p m).lasting = true := a5
  have e5 : risB (qOf p m).over (qOf p m).lasting = true := a6
  have e6 : filesB (qOf p m).files = true := by
    show filesB p.files = true
    unfold filesB
    have hF : ((List.range p.files.length).all fun i => !fileT p.files i) = true := hF
    rw [hF, decide_eq_true (by omega)]; rfl
  have e7 : rulesB (qOf p m) = true := by
    unfold rulesB
    rw [Bool.and_eq_true]
    refine ⟨rng_of fun j hj => ?_, decide_eq_true ?_⟩
    · have hj : j < m := by rw [show (qOf p m).rules.length = m from hlen] at hj; exact hj
      have := rng_get hR j (by omega)
      unfold ruleT at this ⊢
      rw [show (qOf p m).rules.getD j default = p.rules.getD j default from getD_take hj, show (qOf p m).rules.getD (j - 1) default = p.rules.getD (j - 1) default from getD_take (by omega)]
      exact this
    · rw [show (qOf p m).rules.length = m from hlen]; omega
  have e8 : areB (qOf p m) = true := are_of (p := p) rfl rfl (fun r hr => List.mem_of_mem_take hr) (fun hne => by
    have h0 : 0 < m := by
      rcases Nat.eq_zero_or_pos m with e | e
      · subst e; exact absurd rfl hne
      · exact e
    rw [show (qOf p m).rules.length = m from hlen, show (qOf p m).rules.getD (m - 1) default = p.rules.getD (m - 1) default from getD_take (by omega)]
    exact hlast h0) hS
  unfold ruB
  rw [e1, e2, e3, e4, e5, e6, e7, e8]
  rfl
theorem ru_all {p : Pr} (h : refB p = true) : ruB (qAll p) = true := by
  rw [qAll_eq]
  exact ru_of (Nat.le_refl _) h fun h0 => (lastS_get p h0).symm
theorem ru_less {p : Pr} (h : refB p = true) (h2 : 2 ≤ p.rules.length) (hs : (p.rules.getD (p.rules.length - 1) default).stratum = (p.rules.getD (p.rules.length - 2) default).stratum) : ruB (qOf p (p.rules.length - 1)) = true := by
  refine ru_of (by omega) h fun h0 => ?_
  rw [show p.rules.length - 1 - 1 = p.rules.length - 2 by omega, ← hs]
  exact (lastS_get p (by omega)).symm

variable {ext : Ext2}
theorem f3 {k : Nat} {k2 : Nat} (hx : ext 3 = none) (hk : BB + 4 ≤ k) (hk2 : BB + 16 ≤ k2) (p : Pr) (hp : OkPr p) : closedR (callX EE (callP PP XE FF k2) ext k 3 [.agg (ePr p)] []) = some (.bool true) := by
  obtain ⟨k, rfl, hk⟩ := fuel_pos hk
  suffices hs : callX EE (callP PP XE FF k2) ext (k + 1) 3 [.agg (ePr p)] [] = some (.bool true, []) by rw [hs]; rfl
  rw [callX_eq hx rfl Go.Proofs.Try.func3]
  have hres : ∀ (st : List Ob), retX PP 0 Go.Proofs.Try.f3.results.toList (sl 0 52 [(2, .bool true)]) st = some (.bool true, []) := fun st => by kernel_rfl
  refine Giv.eq ?_
  refine Giv.bodyX (C := CC (callP PP XE FF k2) ext k) (kp := kp2 3) c3 ?_
  refine Giv.seqE u0 (x0 _ ext k p) ?_
  refine Giv.seqX u1 (Q1 := fun o => (o.1 = .ret ∧ ∃ st, o.2 = ((sl 0 52 [(2, .bool true)]), st)) ∨ (p.rules.length < 2500 ∧ refB p = true ∧ ∃ v, o = (.normal, (sl 0 52 [(1, .var 0 0), (11, v)]), [.cel (ePr p)]))) ?_ ?_ ?_
  · refine Giv.of_eq (x1 _ ext k p) ?_
    obtain ⟨b, h7, hb⟩ := g7 (k := k2) (by omega) p hp
    refine Giv.B h7 ?_
    refine Giv.b (fun h1 => ?_) (fun h1 => ?_)
    · exact Giv.ok (.inl ⟨rfl, _, rfl⟩)
    refine Giv.B (g8 (by omega) p hp) ?_
    refine Giv.b (fun h2 => ?_) (fun h2 => ?_)
    · exact Giv.ok (.inl ⟨rfl, _, rfl⟩)
    · exact Giv.ok (.inr ⟨hb h1, by simpa using h2, _, rfl⟩)
  rotate_left
  · rintro x e st hx0 (⟨hx, s, h⟩ | ⟨_, _, v, h⟩)
    · have hx : x = .ret := hx
      subst hx
      injection h with he hs; subst he hs
      exact Giv.of_eq (hres _) (Giv.ok rfl)
    · exact absurd (congrArg Prod.fst h) hx0
  rintro e st (⟨h, _⟩ | ⟨hsm, hB, v, h⟩)
  · cases h
  injection h with _ h; injection h with he hs; subst he hs
  refine Giv.seqE u11 (x2 _ ext k p v) ?_
  refine Giv.seqE u111 (x3 _ ext k p p) ?_
  refine Giv.seqX u1111 (Q1 := fun o => ∃ v, o = (.normal, (sl 0 52 [(1, .var 0 0), (3, .var 1 0), (17, v)]), [.cel (ePr p), .cel (eN p)])) ?_ ?_ (fun x e st h1 h2 => by obtain ⟨v, h⟩ := h2; exact absurd (congrArg Prod.fst h) h1)
  · refine Giv.of_eq (x4 _ ext k p p) ?_
    refine Giv.B (f9 (k := k2) (by omega) (qAll p) (by rw [qAll_eq]; exact ok_q hp _) (by show p.rules.length ≤ 100000; omega)) ?_
    rw [ru_all hB]
    exact Giv.ff rfl (Giv.ok ⟨_, rfl⟩)
  rintro e st ⟨v, h⟩
  injection h with _ h; injection h with he hs; subst he hs
  refine Giv.seqE u11111 (x5 _ ext k p p v) ?_
  refine Giv.seqX u111111 (Q1 := fun o => (o.1 = .ret ∧ ∃ st, o.2 = ((sl 0 52 [(2, .bool true)]), st)) ∨ (2 ≤ p.rules.length ∧ (p.rules.getD (p.rules.length - 1) default).stratum = (p.rules.getD (p.rules.length - 2) default).stratum ∧ ∃ v fr, o = (.normal, (sl 0 52 [(1, .var 0 0), (3, .var 1 0), (4, .int .i64 p.rules.length), (39, v)]), .cel (ePr p) :: .cel (eN p) :: fr))) ?_ ?_ ?_
  · refine Giv.of_eq (x6 _ ext k p p) ?_
    refine Giv.p (fun h1 => ?_) (fun h1 => ?_)
    · exact Giv.B (f10 (by omega)) (Giv.ok (.inl ⟨rfl, _, rfl⟩))
    have w1 : IntKind.i64.wrap ((p.rules.length : Int) - 1) = ((p.rules.length - 1 : Nat) : Int) := by rw [wrap64 (by omega) (by omega)]; omega
    have w2 : IntKind.i64.wrap ((p.rules.length : Int) - 2) = ((p.rules.length - 2 : Nat) : Int) := by rw [wrap64 (by omega) (by omega)]; omega
    rw [w1, w2]
    simp only [Int.toNat_natCast]
    refine Giv.t (by omega) ?_
    refine Giv.t (by omega) ?_
    refine Giv.b (fun h2 => ?_) (fun h2 => ?_)
    · exact Giv.B (f10 (by omega)) (Giv.ok (.inl ⟨rfl, _, rfl⟩))
    · exact Giv.ok (.inr ⟨by omega, by simpa using h2, _, _, rfl⟩)
  rotate_left
  · rintro x e st hx0 (⟨hx, s, h⟩ | ⟨_, _, v, fr, h⟩)
    · have hx : x = .ret := hx
      subst hx
      injection h with he hs; subst he hs
      exact Giv.of_eq (hres _) (Giv.ok rfl)
    · exact absurd (congrArg Prod.fst h) hx0
  rintro e st (⟨h, _⟩ | ⟨h2, hst, v, fr, h⟩)
  · cases h
  injection h with _ h; injection h with he hs; subst he hs
  have w1 : IntKind.i64.wrap ((p.rules.length : Int) - 1) = ((p.rules.length - 1 : Nat) : Int) := by rw [wrap64 (by omega) (by omega)]; omega
  refine Giv.seqX u1111111 (Q1 := fun o => o = (.normal, (sl 0 52 [(3, .var 1 0)]), .cel (ePr p) :: .cel (eN (qOf p (p.rules.length - 1))) :: fr)) ?_ ?_ (fun x e st h1 h2 => absurd (congrArg Prod.fst h2) h1)
  · refine Giv.of_eq (x7 _ ext k p p v fr) ?_
    rw [w1]
    simp only [Int.toNat_natCast]
    refine Giv.t (by omega) ?_
    refine Giv.t (by omega) ?_
    refine Giv.ok ?_
    have e := cut_encL 4 eRule p.rules 0 (p.rules.length - 1) (by omega)
    rw [List.drop_zero] at e
    show (Ex.normal, _, Ob.cel (ePr p) :: Ob.cel [HV.int .i64 p.flags, HV.int .i64 p.lasting, encL 1 I64 p.first, encL 1 I64 p.over, HV.int .i64 p.from_, encL 1 eStr p.files, HV.lst 4 (p.rules.length - 1 - 0) (cutF (p.rules.length - 1 - 0) 0 (fun i => eRule (p.rules.getD i default)) (eRule default)), HV.nl 3 (eCounter default), HV.nl 4 (eUser default), encL 7 eItem p.notes] :: fr) = _
    rw [e]
    rfl
  intro e st h
  injection h with _ h; injection h with he hs; subst he hs
  refine Giv.seqX u11111111 (Q1 := fun o => ∃ st, o = (.normal, (sl 0 52 [(2, .bool true)]), st)) ?_ ?_ (fun x e st h1 h2 => by obtain ⟨v, h⟩ := h2; exact absurd (congrArg Prod.fst h) h1)
  · refine Giv.of_eq (x8 _ ext k (qOf p (p.rules.length - 1)) _ fr) ?_
    have hl9 : (qOf p (p.rules.length - 1)).rules.length ≤ 100000 := by show (p.rules.take (p.rules.length - 1)).length ≤ 100000; simp; omega
    refine Giv.B (f9 (k := k2) (by omega) (qOf p (p.rules.length - 1)) (ok_q hp _) hl9) ?_
    rw [ru_less hB h2 hst]
    refine Giv.tt rfl ?_
    exact Giv.B (f10 (by omega)) (Giv.ok ⟨_, rfl⟩)
  rintro e st ⟨s, h⟩
  injection h with _ h; injection h with he hs; subst he hs
  exact Giv.of_eq (hres _) (Giv.ok rfl)
theorem g3 {k : Nat} (hk : BB + 18 ≤ k) (p : Pr) (hp : OkPr p) : callP PP XE FF k 3 [.agg (ePr p)] = some (.bool true) := by
  obtain ⟨k, rfl, hk⟩ := fuel_pos hk
  exact call_of rfl (f3 rfl (by omega) (by omega) p hp)
end Go.Rul
end
