/- Programs of rules: strata of the document's answer. -/
import Derived.Test.YtokpjbddoppdpaaRulB
import Derived.Test.YtokpjbddoppdpaaStoD
set_option linter.unusedVariables false
set_option linter.unusedSimpArgs false
set_option linter.unusedSectionVars false
section
namespace Go.Rul
open Go.Eng
set_option maxRecDepth 100000
set_option linter.unusedVariables false

def mode2 (f : Nat) : Md := match f with
  | 72 => .keep
  | 73 => .any
  | _ => .pure
def kp2 (f i : Nat) : List Nat := match f with
  | 3 => [[1], [1, 11], [2], [1, 3], [1, 3], [1, 3, 17], [2], [1, 3, 4], [1, 3, 4, 39], [2], [3], [2]].getD i []
  | 7 => [[1], [1, 3], [1, 3, 4], [1, 3, 4, 41], [1, 3, 4], [1, 3, 4], [1, 3, 5], [1, 3, 5, 77], [1, 3, 5], [1, 3, 5], [2]].getD i []
  | 8 => [[1], [1, 62], [2], [1, 3], [1, 3, 67], [1, 3], [1, 3, 79], [2], [1, 4], [1, 4, 84], [1, 4], [1, 4, 114], [2], [2]].getD i []
  | 11 => [[0, 1], [0, 1, 10], [4], [0, 1, 5], [0, 1, 5, 14], [0, 1, 5], [0, 1, 5, 25], [4], [4]].getD i []
  | 13 => [[1, 2], [1, 2, 5], [1, 2, 5, 6], [1, 2, 5, 6, 12], [1, 2, 5, 6], [1, 2, 5, 6, 7], [1, 2, 5, 6, 7, 23], [1, 2, 5, 6, 7], [1, 2, 5, 6, 7, 37], [1, 2, 5, 6, 7], [4]].getD i []
  | 15 => [[1, 2], [1, 2, 5], [1, 2, 5, 6], [1, 2, 5, 6, 12], [1, 2, 5, 6], [1, 2, 5, 6, 7], [1, 2, 5, 6, 7, 23], [1, 2, 5, 6, 7], [1, 2, 5, 6, 7, 37], [1, 2, 5, 6, 7], [4]].getD i []
  | 17 => [[2, 3], [2, 3, 71], [4], [2, 3, 5], [2, 3, 5, 76], [2, 3, 5], [2, 3, 5, 90], [4], [4]].getD i []
  | 26 => [[1], [1, 3], [1, 3, 17], [1, 3], [1, 3, 4, 5], [1, 3, 4, 5, 6], [1, 3, 4, 5, 6, 36], [1, 3, 4, 5, 6], [1, 3, 4, 5, 6], [1, 3, 4, 5, 7], [1, 3, 4, 5, 7, 46], [1, 3, 4, 5, 7], [1, 3, 4, 5, 7, 8], [1, 3, 4, 5, 7, 8, 9], [1, 3, 4, 5, 7, 8, 9, 58], [1, 3, 4, 5, 7, 8, 9], [1, 3, 4, 5, 7, 8, 9, 10], [1, 3, 4, 5, 7, 8, 9, 10], [1, 3, 4, 5, 7, 8, 9, 86], [2], [1, 3, 4, 5, 7, 8, 11], [1, 3, 4, 5, 7, 8, 11, 91], [1, 3, 4, 5, 7, 8, 11], [1, 3, 4, 5, 7, 8, 11, 12], [1, 3, 4, 5, 7, 8, 11], [1, 4, 5, 13], [1, 4, 5, 13, 115], [1, 4, 5, 13], [1, 4, 5, 13, 126], [2], [2]].getD i []
  | 27 => [[1], [1, 3], [1, 3, 11], [1, 3], [1, 3, 4], [1, 3, 49], [2], [1, 5], [1, 5, 54], [1, 5], [1, 5, 6], [1, 5, 82], [2], [2]].getD i []
  | 34 => [[1], [1, 7, 8], [1, 7, 8, 9], [1, 3, 7, 8], [1, 3, 4, 5, 7, 8], [1, 3, 4, 5, 7, 8, 17], [1, 4, 5, 7, 8, 21], [1, 7, 8, 38], [2], [1, 7, 8, 39], [2], [1, 7, 8], [2]].getD i []
  | 35 => [[1, 2], [1, 2, 5], [1, 5, 9, 10, 11], [1, 5, 9, 10, 11, 12], [1, 5, 7, 9, 10, 11], [1, 5, 7, 9, 10, 11, 17], [1, 5, 9, 10, 11], [1, 5, 9, 10, 11], [5], [4]].getD i []
  | 39 => [[0, 1], [0, 1, 5], [0, 1, 5, 17], [0, 1, 5], [0, 1, 5, 31], [4], [4]].getD i []
  | _ => []
noncomputable def EE : Env2 := ⟨PP, mode2, [3, 7, 8, 11, 13, 15, 17, 26, 27, 34, 35, 39], kp2⟩
noncomputable abbrev CC (call : Nat → List HV → Option HV) (ext : Ext2) (k : Nat) : Cfg2 := ⟨PP, call, callX EE call ext k, mode2⟩
def rowI (n : Nat) (h : Nat → Int) : Ob := .row true none 1 n (fun j => [.int .i64 (h j)])
theorem updI (h : Nat → Int) (i : Nat) (x : Int) : updF (fun j => [HV.int .i64 (h j)]) i 0 [.int .i64 x] = fun j => [.int .i64 (if j = i then x else h j)] := by
  funext j
  unfold updF
  by_cases e : j = i
  · rw [decide_eq_true e, if_pos e]; rfl
  · rw [decide_eq_false e, if_neg e]; rfl

theorem rowI_upd (F : Nat) (h : Nat → Int) (i : Nat) (x : Int) : Ob.row true none 1 F (updF (fun j => [HV.int .i64 (h j)]) (0 + i) 0 [.int .i64 x]) = rowI F (fun j => if j = i then x else h j) := by rw [Nat.zero_add, updI]; rfl
/-- What a rule adds to the highest strata that write, to the lowest that read. -/
def hiR (r : Rule) (n : Nat) (h : Nat → Int) : Nat → Int := (r.thens.take n).foldl (fun h t j => if j = t.flag.toNat then max (h j) r.stratum else h j) h
def loR (r : Rule) (n : Nat) (h : Nat → Int) : Nat → Int := (r.ifs.take n).foldl (fun h t j => if j = t.flag.toNat then min (h j) r.stratum else h j) h
def hiP (p : Pr) (n : Nat) : Nat → Int := (p.rules.take n).foldl (fun h r => hiR r r.thens.length h) (fun _ => 0)
def lo0 (p : Pr) (n : Nat) : Nat → Int := fun j => if j < n then 21 else 0
def loP (p : Pr) (n : Nat) : Nat → Int := (p.rules.take n).foldl (fun h r => loR r r.ifs.length h) (lo0 p p.flags.toNat)
def lastS (p : Pr) : Int := match p.rules.getLast? with
  | some r => r.stratum
  | none => 0
def oddT (p : Pr) (r : Rule) (t : SetF) : Bool := decide (t.flag < p.lasting) && decide (r.stratum ≠ lastS p)
def strataB (p : Pr) : Bool := (p.rules.all fun r => r.thens.all fun t => !oddT p r t) && (List.range p.flags.toNat).all fun i => decide ((i : Int) < p.lasting) || decide (hiP p p.rules.length i < loP p p.rules.length i)
theorem foldl_take_succ {α β : Type} [Inhabited α] (l : List α) (f : β → α → β) (b : β) (i : Nat) (h : i < l.length) : (l.take (i + 1)).foldl f b = f ((l.take i).foldl f b) (l.getD i default) := by
  rw [List.take_succ_eq_append_getElem h, List.foldl_append, List.getD_eq_getElem?_getD, List.getElem?_eq_getElem h]
  rfl
structure Flags (p : Pr) : Prop where
  lo : 0 ≤ p.flags
  hi : p.flags ≤ 800
  l0 : 0 ≤ p.lasting
  l1 : p.lasting ≤ p.flags
  th : ∀ r ∈ p.rules, ∀ t ∈ r.thens, 0 ≤ t.flag ∧ t.flag < p.flags
  if_ : ∀ r ∈ p.rules, ∀ t ∈ r.ifs, 0 ≤ t.flag ∧ t.flag < p.flags
theorem getD_mem' {α : Type} [Inhabited α] {l : List α} {i : Nat} (h : i < l.length) : l.getD i default ∈ l := by
  rw [List.getD_eq_getElem?_getD, List.getElem?_eq_getElem h]; exact List.getElem_mem h

section
variable {X : Ext}
theorem c26 : Go.Proofs.Try.f26.body = some (subC (fnCode PP 26) []) := by kernel_rfl
theorem q0 : subC (fnCode PP 26) [] = .seq (subC (fnCode PP 26) [0]) (subC (fnCode PP 26) [1]) := by kernel_rfl
theorem q1 : subC (fnCode PP 26) [1] = .seq (subC (fnCode PP 26) [1, 0]) (subC (fnCode PP 26) [1, 1]) := by kernel_rfl
theorem q11 : subC (fnCode PP 26) [1, 1] = .seq (subC (fnCode PP 26) [1, 1, 0]) (subC (fnCode PP 26) [1, 1, 1]) := by kernel_rfl
theorem q111 : subC (fnCode PP 26) [1, 1, 1] = .seq (subC (fnCode PP 26) [1, 1, 1, 0]) (subC (fnCode PP 26) [1, 1, 1, 1]) := by kernel_rfl
theorem q1111 : subC (fnCode PP 26) [1, 1, 1, 1] = .seq (subC (fnCode PP 26) [1, 1, 1, 1, 0]) (subC (fnCode PP 26) [1, 1, 1, 1, 1]) := by kernel_rfl
theorem q11110 : subC (fnCode PP 26) [1, 1, 1, 1, 0] = .seq (subC (fnCode PP 26) [1, 1, 1, 1, 0, 0]) (subC (fnCode PP 26) [1, 1, 1, 1, 0, 1]) := by kernel_rfl
theorem q11111 : subC (fnCode PP 26) [1, 1, 1, 1, 1] = .seq (subC (fnCode PP 26) [1, 1, 1, 1, 1, 0]) (subC (fnCode PP 26) [1, 1, 1, 1, 1, 1]) := by kernel_rfl
theorem q111110 : subC (fnCode PP 26) [1, 1, 1, 1, 1, 0] = .seq (subC (fnCode PP 26) [1, 1, 1, 1, 1, 0, 0]) (subC (fnCode PP 26) [1, 1, 1, 1, 1, 0, 1]) := by kernel_rfl
theorem q111111 : subC (fnCode PP 26) [1, 1, 1, 1, 1, 1] = .seq (subC (fnCode PP 26) [1, 1, 1, 1, 1, 1, 0]) (subC (fnCode PP 26) [1, 1, 1, 1, 1, 1, 1]) := by kernel_rfl
theorem q1111110 : subC (fnCode PP 26) [1, 1, 1, 1, 1, 1, 0] = .seq (subC (fnCode PP 26) [1, 1, 1, 1, 1, 1, 0, 0]) (subC (fnCode PP 26) [1, 1, 1, 1, 1, 1, 0, 1]) := by kernel_rfl
theorem b0 : subC (fnCode PP 26) [1, 1, 1, 1, 0, 1] = .block 0 (.loop (subC (fnCode PP 26) [1, 1, 1, 1, 0, 1, 0, 0])) := by kernel_rfl
theorem b2 : subC (fnCode PP 26) [1, 1, 1, 1, 1, 0, 1] = .block 2 (.loop (subC (fnCode PP 26) [1, 1, 1, 1, 1, 0, 1, 0, 0])) := by kernel_rfl
theorem b8 : subC (fnCode PP 26) [1, 1, 1, 1, 1, 1, 0, 1] = .block 8 (.loop (subC (fnCode PP 26) [1, 1, 1, 1, 1, 1, 0, 1, 0, 0])) := by kernel_rfl
theorem w0 : subC (fnCode PP 26) [1, 1, 1, 1, 1, 0, 1, 0, 0] = .seq (subC (fnCode PP 26) [1, 1, 1, 1, 1, 0, 1, 0, 0, 0]) (subC (fnCode PP 26) [1, 1, 1, 1, 1, 0, 1, 0, 0, 1]) := by kernel_rfl
theorem w1 : subC (fnCode PP 26) [1, 1, 1, 1, 1, 0, 1, 0, 0, 1] = .seq (subC (fnCode PP 26) [1, 1, 1, 1, 1, 0, 1, 0, 0, 1, 0]) (subC (fnCode PP 26) [1, 1, 1, 1, 1, 0, 1, 0, 0, 1, 1]) := by kernel_rfl
theorem w10 : subC (fnCode PP 26) [1, 1, 1, 1, 1, 0, 1, 0, 0, 1, 0] = .block 3 (subC (fnCode PP 26) [1, 1, 1, 1, 1, 0, 1, 0, 0, 1, 0, 0]) := by kernel_rfl
theorem w100 : subC (fnCode PP 26) [1, 1, 1, 1, 1, 0, 1, 0, 0, 1, 0, 0] = .seq (subC (fnCode PP 26) [1, 1, 1, 1, 1, 0, 1, 0, 0, 1, 0, 0, 0]) (subC (fnCode PP 26) [1, 1, 1, 1, 1, 0, 1, 0, 0, 1, 0, 0, 1]) := by kernel_rfl
theorem w1001 : subC (fnCode PP 26) [1, 1, 1, 1, 1, 0, 1, 0, 0, 1, 0, 0, 1] = .seq (subC (fnCode PP 26) [1, 1, 1, 1, 1, 0, 1, 0, 0, 1, 0, 0, 1, 0]) (subC (fnCode PP 26) [1, 1, 1, 1, 1, 0, 1, 0, 0, 1, 0, 0, 1, 1]) := by kernel_rfl
theorem w10010 : subC (fnCode PP 26) [1, 1, 1, 1, 1, 0, 1, 0, 0, 1, 0, 0, 1, 0] = .seq (subC (fnCode PP 26) [1, 1, 1, 1, 1, 0, 1, 0, 0, 1, 0, 0, 1, 0, 0]) (subC (fnCode PP 26) [1, 1, 1, 1, 1, 0, 1, 0, 0, 1, 0, 0, 1, 0, 1]) := by kernel_rfl
theorem w10011 : subC (fnCode PP 26) [1, 1, 1, 1, 1, 0, 1, 0, 0, 1, 0, 0, 1, 1] = .seq (subC (fnCode PP 26) [1, 1, 1, 1, 1, 0, 1, 0, 0, 1, 0, 0, 1, 1, 0]) (subC (fnCode PP 26) [1, 1, 1, 1, 1, 0, 1, 0, 0, 1, 0, 0, 1, 1, 1]) := by kernel_rfl
theorem b4 : subC (fnCode PP 26) [1, 1, 1, 1, 1, 0, 1, 0, 0, 1, 0, 0, 1, 0, 1] = .block 4 (.loop (subC (fnCode PP 26) [1, 1, 1, 1, 1, 0, 1, 0, 0, 1, 0, 0, 1, 0, 1, 0, 0])) := by kernel_rfl
theorem b6 : subC (fnCode PP 26) [1, 1, 1, 1, 1, 0, 1, 0, 0, 1, 0, 0, 1, 1, 1] = .block 6 (.loop (subC (fnCode PP 26) [1, 1, 1, 1, 1, 0, 1, 0, 0, 1, 0, 0, 1, 1, 1, 0, 0])) := by kernel_rfl
theorem p0 (call : Nat → List HV → Option HV) (ext : Ext2) (k : Nat) (p : Pr) :
    (evC2 (CC call ext k) (kp2 26) 0 k (subC (fnCode PP 26) [0]) Out2 (sl 0 127 [(0, .agg (ePr p))]) [] fin2) =
    some (Ex.normal, (sl 0 127 [(1, HV.var 0 0)]), [Ob.cel [HV.int IntKind.i64 p.flags, HV.int IntKind.i64 p.lasting, encL 1 I64 p.first, encL 1 I64 p.over, HV.int IntKind.i64 p.from_, encL 1 eStr p.files, encL 4 eRule p.rules, encL 3 eCounter p.counters, encL 4 eUser p.users, encL 7 eItem p.notes]]) := by kernel_rfl
theorem p1 (call : Nat → List HV → Option HV) (ext : Ext2) (k : Nat) (p : Pr) :
    (evC2 (CC call ext k) (kp2 26) 0 k (subC (fnCode PP 26) [1, 0]) Out2 (sl 0 127 [(1, .var 0 0)]) [.cel (ePr p)] fin2) =
    some (Ex.normal, (sl 0 127 [(1, HV.var 0 0), (3, HV.int IntKind.i64 (0))]), [Ob.cel (ePr p)]) := by kernel_rfl
theorem p2 (call : Nat → List HV → Option HV) (ext : Ext2) (k : Nat) (p : Pr) :
    (evC2 (CC call ext k) (kp2 26) 0 k (subC (fnCode PP 26) [1, 1, 0]) Out2 (sl 0 127 [(1, .var 0 0), (3, .int .i64 0)]) [.cel (ePr p)] fin2) =
    br (decide (0 < (↑p.rules.length : Int))) (br (decide (0 ≤ IntKind.i64.wrap ((↑p.rules.length : Int) - 1) ∧ IntKind.i64.wrap ((↑p.rules.length : Int) - 1) < (↑p.rules.length : Int))) (some (Ex.normal, (sl 0 127 [(1, HV.var 0 0), (3, HV.int IntKind.i64 (p.rules.getD (IntKind.i64.wrap ((↑p.rules.length : Int) - 1)).toNat default).stratum)]), [Ob.cel (ePr p)])) none) (some (Ex.normal, (sl 0 127 [(1, HV.var 0 0), (3, HV.int IntKind.i64 (0)), (17, HV.bool (decide (0 < (↑p.rules.length : Int))))]), [Ob.cel (ePr p)])) := by kernel_rfl
theorem p3 (call : Nat → List HV → Option HV) (ext : Ext2) (k : Nat) (p : Pr) (last : Int) (v : HV) :
    (evC2 (CC call ext k) (kp2 26) 0 k (subC (fnCode PP 26) [1, 1, 1, 0]) Out2 (sl 0 127 [(1, .var 0 0), (3, .int .i64 last), (17, v)]) [.cel (ePr p)] fin2) =
    br (decide (p.flags = p.flags)) (br (decide (0 ≤ p.flags ∧ p.flags * (↑8 : Int) ≤ 140737488355328)) (br (decide (p.flags = p.flags)) (br (decide (0 ≤ p.flags ∧ p.flags * (↑8 : Int) ≤ 140737488355328)) (some (Ex.normal, (sl 0 127 [(1, HV.var 0 0), (3, HV.int IntKind.i64 last), (4, HV.arr 3 1 0 p.flags.toNat), (5, HV.arr 6 1 0 p.flags.toNat)]), [Ob.cel (ePr p), Ob.free, Ob.free, Ob.row true none 1 p.flags.toNat fun x => [HV.int IntKind.i64 (0)], Ob.free, Ob.free, Ob.row true none 1 p.flags.toNat fun x => [HV.int IntKind.i64 (0)], Ob.free, Ob.free])) none) none) none) none := by kernel_rfl
theorem p5 (call : Nat → List HV → Option HV) (ext : Ext2) (k : Nat) (p : Pr) (last : Int) (F : Nat) (st : List Ob) :
    (evC2 (CC call ext k) (kp2 26) 0 k (subC (fnCode PP 26) [1, 1, 1, 1, 0, 0]) Out2 (sl 0 127 [(1, .var 0 0), (3, .int .i64 last), (4, .arr 3 1 0 F), (5, .arr 6 1 0 F)]) st fin2) =
    some (Ex.normal, (sl 0 127 [(1, HV.var 0 0), (3, HV.int IntKind.i64 last), (4, HV.arr 3 1 0 F), (5, HV.arr 6 1 0 F), (6, HV.int IntKind.i64 (0))]), st) := by kernel_rfl
theorem r1 (call : Nat → List HV → Option HV) (ext : Ext2) (k : Nat) (p : Pr) (last : Int) (F : Nat) (i : Nat) (hi lo : Nat → Int) :
    (evC2 (CC call ext k) (kp2 26) 0 k (subC (fnCode PP 26) [1, 1, 1, 1, 0, 1, 0, 0]) Out2 (sl 0 127 [(1, .var 0 0), (3, .int .i64 last), (4, .arr 1 1 0 F), (5, .arr 2 1 0 F), (6, .int .i64 i)]) [.cel (ePr p), rowI F hi, rowI F lo] (rnd 0)) =
    br (decide ((↑i : Int) < p.flags)) (br (decide (0 ≤ (↑i : Int) ∧ (↑i : Int) < (↑F : Int))) (some (Ex.normal, (sl 0 127 [(1, HV.var 0 0), (3, HV.int IntKind.i64 last), (4, HV.arr 1 1 0 F), (5, HV.arr 2 1 0 F), (6, HV.int IntKind.i64 (IntKind.i64.wrap ((↑i : Int) + 1)))]), [Ob.cel [HV.int IntKind.i64 p.flags, HV.int IntKind.i64 p.lasting, HV.lst 1 p.first.length fun i => [HV.int IntKind.i64 (p.first.getD i default)], HV.lst 1 p.over.length fun i => [HV.int IntKind.i64 (p.over.getD i default)], HV.int IntKind.i64 p.from_, HV.lst 1 p.files.length fun i => eStr (p.files.getD i default), HV.lst 4 p.rules.length fun i => eRule (p.rules.getD i default), HV.lst 3 p.counters.length fun i => eCounter (p.counters.getD i default), HV.lst 4 p.users.length fun i => eUser (p.users.getD i default), HV.lst 7 p.notes.length fun i => eItem (p.notes.getD i default)], Ob.row true none 1 F fun j => [HV.int IntKind.i64 (hi j)], Ob.row true none 1 F (updF (fun j => [HV.int IntKind.i64 (lo j)]) (0 + i) 0 [HV.int IntKind.i64 (21)])])) none) (some (Ex.exit 0, (sl 0 127 [(1, HV.var 0 0), (3, HV.int IntKind.i64 last), (4, HV.arr 1 1 0 F), (5, HV.arr 2 1 0 F), (6, HV.int IntKind.i64 (↑i : Int)), (36, HV.bool (decide ((↑i : Int) < p.flags)))]), [Ob.cel (ePr p), Ob.row true none 1 F fun j => [HV.int IntKind.i64 (hi j)], Ob.row true none 1 F fun j => [HV.int IntKind.i64 (lo j)]])) := by kernel_rfl
theorem p9 (call : Nat → List HV → Option HV) (ext : Ext2) (k : Nat) (p : Pr) (last : Int) (F : Nat) (i : Int) (hi lo : Nat → Int) (v : HV) :
    (evC2 (CC call ext k) (kp2 26) 0 k (subC (fnCode PP 26) [1, 1, 1, 1, 1, 0, 0]) Out2 (sl 0 127 [(1, .var 0 0), (3, .int .i64 last), (4, .arr 1 1 0 F), (5, .arr 2 1 0 F), (6, .int .i64 i), (36, v)]) [.cel (ePr p), rowI F hi, rowI F lo] fin2) =
    some (Ex.normal, (sl 0 127 [(1, HV.var 0 0), (3, HV.int IntKind.i64 last), (4, HV.arr 1 1 0 F), (5, HV.arr 2 1 0 F), (7, HV.int IntKind.i64 (0))]), [Ob.cel (ePr p), Ob.row true none 1 F fun j => [HV.int IntKind.i64 (hi j)], Ob.row true none 1 F fun j => [HV.int IntKind.i64 (lo j)]]) := by kernel_rfl
theorem r2a (call : Nat → List HV → Option HV) (ext : Ext2) (k : Nat) (p : Pr) (last : Int) (F : Nat) (i : Nat) (hi lo : Nat → Int) :
    (evC2 (CC call ext k) (kp2 26) 0 k (subC (fnCode PP 26) [1, 1, 1, 1, 1, 0, 1, 0, 0, 0]) Out2 (sl 0 127 [(1, .var 0 0), (3, .int .i64 last), (4, .arr 1 1 0 F), (5, .arr 2 1 0 F), (7, .int .i64 i)]) [.cel (ePr p), rowI F hi, rowI F lo] fin2) =
    br (decide ((↑i : Int) < (↑p.rules.length : Int))) (some (Ex.normal, (sl 0 127 [(1, HV.var 0 0), (3, HV.int IntKind.i64 last), (4, HV.arr 1 1 0 F), (5, HV.arr 2 1 0 F), (7, HV.int IntKind.i64 (↑i : Int)), (46, HV.bool (decide ((↑i : Int) < (↑p.rules.length : Int))))]), [Ob.cel (ePr p), Ob.row true none 1 F fun j => [HV.int IntKind.i64 (hi j)], Ob.row true none 1 F fun j => [HV.int IntKind.i64 (lo j)]])) (some (Ex.exit 2, (sl 0 127 [(1, HV.var 0 0), (3, HV.int IntKind.i64 last), (4, HV.arr 1 1 0 F), (5, HV.arr 2 1 0 F), (7, HV.int IntKind.i64 (↑i : Int)), (46, HV.bool (decide ((↑i : Int) < (↑p.rules.length : Int))))]), [Ob.cel (ePr p), Ob.row true none 1 F fun j => [HV.int IntKind.i64 (hi j)], Ob.row true none 1 F fun j => [HV.int IntKind.i64 (lo j)]])) := by kernel_rfl
theorem r2b (call : Nat → List HV → Option HV) (ext : Ext2) (k : Nat) (p : Pr) (last : Int) (F : Nat) (i : Nat) (hi lo : Nat → Int) (v : HV) :
    (evC2 (CC call ext k) (kp2 26) 0 k (subC (fnCode PP 26) [1, 1, 1, 1, 1, 0, 1, 0, 0, 1, 0, 0, 0]) Out2 (sl 0 127 [(1, .var 0 0), (3, .int .i64 last), (4, .arr 1 1 0 F), (5, .arr 2 1 0 F), (7, .int .i64 i), (46, v)]) [.cel (ePr p), rowI F hi, rowI F lo] fin2) =
    br (decide (0 ≤ (↑i : Int) ∧ (↑i : Int) < (↑p.rules.length : Int))) (some (Ex.normal, (sl 0 127 [(1, HV.var 0 0), (3, HV.int IntKind.i64 last), (4, HV.arr 1 1 0 F), (5, HV.arr 2 1 0 F), (7, HV.int IntKind.i64 (↑i : Int)), (8, HV.var 3 0)]), [Ob.cel (ePr p), Ob.row true none 1 F fun j => [HV.int IntKind.i64 (hi j)], Ob.row true none 1 F fun j => [HV.int IntKind.i64 (lo j)], Ob.cel [HV.int IntKind.i64 (p.rules.getD i default).stratum, encL 2 eLit (p.rules.getD i default).ifs, encL 3 eCond (p.rules.getD i default).conds, encL 2 eSet (p.rules.getD i default).thens]])) none := by kernel_rfl
theorem r2c (call : Nat → List HV → Option HV) (ext : Ext2) (k : Nat) (p : Pr) (r : Rule) (last : Int) (F : Nat) (i : Nat) (hi lo : Nat → Int) :
    (evC2 (CC call ext k) (kp2 26) 0 k (subC (fnCode PP 26) [1, 1, 1, 1, 1, 0, 1, 0, 0, 1, 0, 0, 1, 0, 0]) Out2 (sl 0 127 [(1, .var 0 0), (3, .int .i64 last), (4, .arr 1 1 0 F), (5, .arr 2 1 0 F), (7, .int .i64 i), (8, .var 3 0)]) [.cel (ePr p), rowI F hi, rowI F lo, .cel (eRule r)] fin2) =
    some (Ex.normal, (sl 0 127 [(1, HV.var 0 0), (3, HV.int IntKind.i64 last), (4, HV.arr 1 1 0 F), (5, HV.arr 2 1 0 F), (7, HV.int IntKind.i64 (↑i : Int)), (8, HV.var 3 0), (9, HV.int IntKind.i64 (0))]), [Ob.cel (ePr p), Ob.row true none 1 F fun j => [HV.int IntKind.i64 (hi j)], Ob.row true none 1 F fun j => [HV.int IntKind.i64 (lo j)], Ob.cel (eRule r)]) := by kernel_rfl
theorem r4 (call : Nat → List HV → Option HV) (ext : Ext2) (k : Nat) (p : Pr) (r : Rule) (last : Int) (F : Nat) (i j : Nat) (hi lo : Nat → Int) :
    (evC2 (CC call ext k) (kp2 26) 0 k (subC (fnCode PP 26) [1, 1, 1, 1, 1, 0, 1, 0, 0, 1, 0, 0, 1, 0, 1, 0, 0]) Out2 (sl 0 127 [(1, .var 0 0), (3, .int .i64 last), (4, .arr 1 1 0 F), (5, .arr 2 1 0 F), (7, .int .i64 i), (8, .var 3 0), (9, .int .i64 j)]) [.cel (ePr p), rowI F hi, rowI F lo, .cel (eRule r)] (rnd 0)) =
    br (decide ((↑j : Int) < (↑r.thens.length : Int)))
  (br (decide (0 ≤ (↑j : Int) ∧ (↑j : Int) < (↑r.thens.length : Int)))
    (br (decide (0 ≤ (r.thens.getD j default).flag ∧ (r.thens.getD j default).flag < (↑F : Int)))
      (bndI IntKind.i64 [HV.int IntKind.i64 (hi (0 + (r.thens.getD j default).flag.toNat))][0]? fun n =>
        br (decide (0 ≤ (r.thens.getD j default).flag ∧ (r.thens.getD j default).flag < (↑F : Int)))
          (br (decide ((r.thens.getD j default).flag < p.lasting))
            (br (!decide (r.stratum = last)) (some (Ex.ret, (sl 0 127 [(2, HV.bool false)]), [Ob.cel (ePr p), Ob.row true none 1 F (updF (fun j => [HV.int IntKind.i64 (hi j)]) (0 + (r.thens.getD j default).flag.toNat) 0 [HV.int IntKind.i64 (max n r.stratum)]), Ob.row true none 1 F fun j => [HV.int IntKind.i64 (lo j)], Ob.cel (eRule r), Ob.free, Ob.free, Ob.free, Ob.free, Ob.free, Ob.free, Ob.free, Ob.free, Ob.free, Ob.free, Ob.free]))
              (some (Ex.normal, (sl 0 127 [(1, HV.var 0 0), (3, HV.int IntKind.i64 last), (4, HV.arr 1 1 0 F), (5, HV.arr 2 1 0 F), (7, HV.int IntKind.i64 (↑i : Int)), (8, HV.var 3 0), (9, HV.int IntKind.i64 (IntKind.i64.wrap ((↑j : Int) + 1)))]), [Ob.cel [HV.int IntKind.i64 p.flags, HV.int IntKind.i64 p.lasting, HV.lst 1 p.first.length fun i => [HV.int IntKind.i64 (p.first.getD i default)], HV.lst 1 p.over.length fun i => [HV.int IntKind.i64 (p.over.getD i default)], HV.int IntKind.i64 p.from_, HV.lst 1 p.files.length fun i => eStr (p.files.getD i default), HV.lst 4 p.rules.length fun i => eRule (p.rules.getD i default), HV.lst 3 p.counters.length fun i => eCounter (p.counters.getD i default), HV.lst 4 p.users.length fun i => eUser (p.users.getD i default), HV.lst 7 p.notes.length fun i => eItem (p.notes.getD i default)], Ob.row true none 1 F (updF (fun j => [HV.int IntKind.i64 (hi j)]) (0 + (r.thens.getD j default).flag.toNat) 0 [HV.int IntKind.i64 (max n r.stratum)]), Ob.row true none 1 F fun j => [HV.int IntKind.i64 (lo j)], Ob.cel [HV.int IntKind.i64 r.stratum, HV.lst 2 r.ifs.length fun i => eLit (r.ifs.getD i default), HV.lst 3 r.conds.length fun i => eCond (r.conds.getD i default), HV.lst 2 r.thens.length fun i => eSet (r.thens.getD i default)]])))
            (some (Ex.normal, (sl 0 127 [(1, HV.var 0 0), (3, HV.int IntKind.i64 last), (4, HV.arr 1 1 0 F), (5, HV.arr 2 1 0 F), (7, HV.int IntKind.i64 (↑i : Int)), (8, HV.var 3 0), (9, HV.int IntKind.i64 (IntKind.i64.wrap ((↑j : Int) + 1)))]), [Ob.cel [HV.int IntKind.i64 p.flags, HV.int IntKind.i64 p.lasting, HV.lst 1 p.first.length fun i => [HV.int IntKind.i64 (p.first.getD i default)], HV.lst 1 p.over.length fun i => [HV.int IntKind.i64 (p.over.getD i default)], HV.int IntKind.i64 p.from_, HV.lst 1 p.files.length fun i => eStr (p.files.getD i default), HV.lst 4 p.rules.length fun i => eRule (p.rules.getD i default), HV.lst 3 p.counters.length fun i => eCounter (p.counters.getD i default), HV.lst 4 p.users.length fun i => eUser (p.users.getD i default), HV.lst 7 p.notes.length fun i => eItem (p.notes.getD i default)], Ob.row true none 1 F (updF (fun j => [HV.int IntKind.i64 (hi j)]) (0 + (r.thens.getD j default).flag.toNat) 0 [HV.int IntKind.i64 (max n r.stratum)]), Ob.row true none 1 F fun j => [HV.int IntKind.i64 (lo j)], Ob.cel [HV.int IntKind.i64 r.stratum, HV.lst 2 r.ifs.length fun i => eLit (r.ifs.getD i default), HV.lst 3 r.conds.length fun i => eCond (r.conds.getD i default), HV.lst 2 r.thens.length fun i => eSet (r.thens.getD i default)]])))
          none)
      none)
    none)
  (some (Ex.exit 4, (sl 0 127 [(1, HV.var 0 0), (3, HV.int IntKind.i64 last), (4, HV.arr 1 1 0 F), (5, HV.arr 2 1 0 F), (7, HV.int IntKind.i64 (↑i : Int)), (8, HV.var 3 0), (9, HV.int IntKind.i64 (↑j : Int)), (58, HV.bool (decide ((↑j : Int) < (↑r.thens.length : Int))))]), [Ob.cel (ePr p), Ob.row true none 1 F fun j => [HV.int IntKind.i64 (hi j)], Ob.row true none 1 F fun j => [HV.int IntKind.i64 (lo j)], Ob.cel (eRule r)])) := by kernel_rfl
theorem r2d (call : Nat → List HV → Option HV) (ext : Ext2) (k : Nat) (p : Pr) (r : Rule) (last : Int) (F : Nat) (i : Nat) (j : Int) (hi lo : Nat → Int) (v : HV) :
    (evC2 (CC call ext k) (kp2 26) 0 k (subC (fnCode PP 26) [1, 1, 1, 1, 1, 0, 1, 0, 0, 1, 0, 0, 1, 1, 0]) Out2 (sl 0 127 [(1, .var 0 0), (3, .int .i64 last), (4, .arr 1 1 0 F), (5, .arr 2 1 0 F), (7, .int .i64 i), (8, .var 3 0), (9, .int .i64 j), (58, v)]) [.cel (ePr p), rowI F hi, rowI F lo, .cel (eRule r)] fin2) =
    some (Ex.normal, (sl 0 127 [(1, HV.var 0 0), (3, HV.int IntKind.i64 last), (4, HV.arr 1 1 0 F), (5, HV.arr 2 1 0 F), (7, HV.int IntKind.i64 (↑i : Int)), (8, HV.var 3 0), (11, HV.int IntKind.i64 (0))]), [Ob.cel (ePr p), Ob.row true none 1 F fun j => [HV.int IntKind.i64 (hi j)], Ob.row true none 1 F fun j => [HV.int IntKind.i64 (lo j)], Ob.cel (eRule r)]) := by kernel_rfl
theorem r6 (call : Nat → List HV → Option HV) (ext : Ext2) (k : Nat) (p : Pr) (r : Rule) (last : Int) (F : Nat) (i j : Nat) (hi lo : Nat → Int) :
    (evC2 (CC call ext k) (kp2 26) 0 k (subC (fnCode PP 26) [1, 1, 1, 1, 1, 0, 1, 0, 0, 1, 0, 0, 1, 1, 1, 0, 0]) Out2 (sl 0 127 [(1, .var 0 0), (3, .int .i64 last), (4, .arr 1 1 0 F), (5, .arr 2 1 0 F), (7, .int .i64 i), (8, .var 3 0), (11, .int .i64 j)]) [.cel (ePr p), rowI F hi, rowI F lo, .cel (eRule r)] (rnd 0)) =
    br (decide ((↑j : Int) < (↑r.ifs.length : Int))) (br (decide (0 ≤ (↑j : Int) ∧ (↑j : Int) < (↑r.ifs.length : Int))) (br (decide (0 ≤ (r.ifs.getD j default).flag ∧ (r.ifs.getD j default).flag < (↑F : Int))) (bndI IntKind.i64 [HV.int IntKind.i64 (lo (0 + (r.ifs.getD j default).flag.toNat))][0]? fun n => br (decide (0 ≤ (r.ifs.getD j default).flag ∧ (r.ifs.getD j default).flag < (↑F : Int))) (some (Ex.normal, (sl 0 127 [(1, HV.var 0 0), (3, HV.int IntKind.i64 last), (4, HV.arr 1 1 0 F), (5, HV.arr 2 1 0 F), (7, HV.int IntKind.i64 (↑i : Int)), (8, HV.var 3 0), (11, HV.int IntKind.i64 (IntKind.i64.wrap ((↑j : Int) + 1)))]), [Ob.cel [HV.int IntKind.i64 p.flags, HV.int IntKind.i64 p.lasting, HV.lst 1 p.first.length fun i => [HV.int IntKind.i64 (p.first.getD i default)], HV.lst 1 p.over.length fun i => [HV.int IntKind.i64 (p.over.getD i default)], HV.int IntKind.i64 p.from_, HV.lst 1 p.files.length fun i => eStr (p.files.getD i default), HV.lst 4 p.rules.length fun i => eRule (p.rules.getD i default), HV.lst 3 p.counters.length fun i => eCounter (p.counters.getD i default), HV.lst 4 p.users.length fun i => eUser (p.users.getD i default), HV.lst 7 p.notes.length fun i => eItem (p.notes.getD i default)], Ob.row true none 1 F fun j => [HV.int IntKind.i64 (hi j)], Ob.row true none 1 F (updF (fun j => [HV.int IntKind.i64 (lo j)]) (0 + (r.ifs.getD j default).flag.toNat) 0 [HV.int IntKind.i64 (min n r.stratum)]), Ob.cel [HV.int IntKind.i64 r.stratum, HV.lst 2 r.ifs.length fun i => eLit (r.ifs.getD i default), HV.lst 3 r.conds.length fun i => eCond (r.conds.getD i default), HV.lst 2 r.thens.length fun i => eSet (r.thens.getD i default)]])) none) none) none)
  (some (Ex.exit 6, (sl 0 127 [(1, HV.var 0 0), (3, HV.int IntKind.i64 last), (4, HV.arr 1 1 0 F), (5, HV.arr 2 1 0 F), (7, HV.int IntKind.i64 (↑i : Int)), (8, HV.var 3 0), (11, HV.int IntKind.i64 (↑j : Int)), (91, HV.bool (decide ((↑j : Int) < (↑r.ifs.length : Int))))]), [Ob.cel (ePr p), Ob.row true none 1 F fun j => [HV.int IntKind.i64 (hi j)], Ob.row true none 1 F fun j => [HV.int IntKind.i64 (lo j)], Ob.cel (eRule r)])) := by kernel_rfl
theorem r2e (call : Nat → List HV → Option HV) (ext : Ext2) (k : Nat) (p : Pr) (r : Rule) (last : Int) (F : Nat) (i : Nat) (j : Int) (hi lo : Nat → Int) (v : HV) :
    (evC2 (CC call ext k) (kp2 26) 0 k (subC (fnCode PP 26) [1, 1, 1, 1, 1, 0, 1, 0, 0, 1, 1]) Out2 (sl 0 127 [(1, .var 0 0), (3, .int .i64 last), (4, .arr 1 1 0 F), (5, .arr 2 1 0 F), (7, .int .i64 i), (8, .var 3 0), (11, .int .i64 j), (91, v)]) [.cel (ePr p), rowI F hi, rowI F lo, .cel (eRule r)] (rnd 0)) =
    some (Ex.normal, (sl 0 127 [(1, HV.var 0 0), (3, HV.int IntKind.i64 last), (4, HV.arr 1 1 0 F), (5, HV.arr 2 1 0 F), (7, HV.int IntKind.i64 (IntKind.i64.wrap ((↑i : Int) + 1)))]), [Ob.cel [HV.int IntKind.i64 p.flags, HV.int IntKind.i64 p.lasting, HV.lst 1 p.first.length fun i => [HV.int IntKind.i64 (p.first.getD i default)], HV.lst 1 p.over.length fun i => [HV.int IntKind.i64 (p.over.getD i default)], HV.int IntKind.i64 p.from_, HV.lst 1 p.files.length fun i => eStr (p.files.getD i default), HV.lst 4 p.rules.length fun i => eRule (p.rules.getD i default), HV.lst 3 p.counters.length fun i => eCounter (p.counters.getD i default), HV.lst 4 p.users.length fun i => eUser (p.users.getD i default), HV.lst 7 p.notes.length fun i => eItem (p.notes.getD i default)], Ob.row true none 1 F fun j => [HV.int IntKind.i64 (hi j)], Ob.row true none 1 F fun j => [HV.int IntKind.i64 (lo j)]]) := by kernel_rfl
theorem p25 (call : Nat → List HV → Option HV) (ext : Ext2) (k : Nat) (p : Pr) (last : Int) (F : Nat) (i : Int) (hi lo : Nat → Int) (v : HV) :
    (evC2 (CC call ext k) (kp2 26) 0 k (subC (fnCode PP 26) [1, 1, 1, 1, 1, 1, 0, 0]) Out2 (sl 0 127 [(1, .var 0 0), (3, .int .i64 last), (4, .arr 1 1 0 F), (5, .arr 2 1 0 F), (7, .int .i64 i), (46, v)]) [.cel (ePr p), rowI F hi, rowI F lo] fin2) =
    some (Ex.normal, (sl 0 127 [(1, HV.var 0 0), (4, HV.arr 1 1 0 F), (5, HV.arr 2 1 0 F), (13, HV.int IntKind.i64 p.lasting)]), [Ob.cel (ePr p), Ob.row true none 1 F fun j => [HV.int IntKind.i64 (hi j)], Ob.row true none 1 F fun j => [HV.int IntKind.i64 (lo j)]]) := by kernel_rfl
theorem r8 (call : Nat → List HV → Option HV) (ext : Ext2) (k : Nat) (p : Pr) (F : Nat) (i : Nat) (hi lo : Nat → Int) :
    (evC2 (CC call ext k) (kp2 26) 0 k (subC (fnCode PP 26) [1, 1, 1, 1, 1, 1, 0, 1, 0, 0]) Out2 (sl 0 127 [(1, .var 0 0), (4, .arr 1 1 0 F), (5, .arr 2 1 0 F), (13, .int .i64 i)]) [.cel (ePr p), rowI F hi, rowI F lo] (rnd 0)) =
    br (decide ((↑i : Int) < p.flags)) (br (decide (0 ≤ (↑i : Int) ∧ (↑i : Int) < (↑F : Int))) (bndI IntKind.i64 [HV.int IntKind.i64 (hi (0 + i))][0]? fun n => br (decide (0 ≤ (↑i : Int) ∧ (↑i : Int) < (↑F : Int))) (bndI IntKind.i64 [HV.int IntKind.i64 (lo (0 + i))][0]? fun n_1 => br (decide (n_1 ≤ n)) (some (Ex.ret, (sl 0 127 [(2, HV.bool false)]), [Ob.cel (ePr p), Ob.row true none 1 F fun j => [HV.int IntKind.i64 (hi j)], Ob.row true none 1 F fun j => [HV.int IntKind.i64 (lo j)], Ob.free, Ob.free, Ob.free, Ob.free, Ob.free, Ob.free, Ob.free, Ob.free, Ob.free])) (some (Ex.normal, (sl 0 127 [(1, HV.var 0 0), (4, HV.arr 1 1 0 F), (5, HV.arr 2 1 0 F), (13, HV.int IntKind.i64 (IntKind.i64.wrap ((↑i : Int) + 1)))]), [Ob.cel [HV.int IntKind.i64 p.flags, HV.int IntKind.i64 p.lasting, HV.lst 1 p.first.length fun i => [HV.int IntKind.i64 (p.first.getD i default)], HV.lst 1 p.over.length fun i => [HV.int IntKind.i64 (p.over.getD i default)], HV.int IntKind.i64 p.from_, HV.lst 1 p.files.length fun i => eStr (p.files.getD i default), HV.lst 4 p.rules.length fun i => eRule (p.rules.getD i default), HV.lst 3 p.counters.length fun i => eCounter (p.counters.getD i default), HV.lst 4 p.users.length fun i => eUser (p.users.getD i default), HV.lst 7 p.notes.length fun i => eItem (p.notes.getD i default)], Ob.row true none 1 F fun j => [HV.int IntKind.i64 (hi j)], Ob.row true none 1 F fun j => [HV.int IntKind.i64 (lo j)]]))) none) none)
  (some (Ex.exit 8, (sl 0 127 [(1, HV.var 0 0), (4, HV.arr 1 1 0 F), (5, HV.arr 2 1 0 F), (13, HV.int IntKind.i64 (↑i : Int)), (115, HV.bool (decide ((↑i : Int) < p.flags)))]), [Ob.cel (ePr p), Ob.row true none 1 F fun j => [HV.int IntKind.i64 (hi j)], Ob.row true none 1 F fun j => [HV.int IntKind.i64 (lo j)]])) := by kernel_rfl
theorem p30 (call : Nat → List HV → Option HV) (ext : Ext2) (k : Nat) (p : Pr) (F : Nat) (i : Int) (hi lo : Nat → Int) (v : HV) :
    (evC2 (CC call ext k) (kp2 26) 0 k (subC (fnCode PP 26) [1, 1, 1, 1, 1, 1, 1]) Out2 (sl 0 127 [(1, .var 0 0), (4, .arr 1 1 0 F), (5, .arr 2 1 0 F), (13, .int .i64 i), (115, v)]) [.cel (ePr p), rowI F hi, rowI F lo] fin2) =
    some (Ex.ret, (sl 0 127 [(2, HV.bool true)]), [Ob.cel (ePr p), Ob.row true none 1 F fun j => [HV.int IntKind.i64 (hi j)], Ob.row true none 1 F fun j => [HV.int IntKind.i64 (lo j)]]) := by kernel_rfl

variable {call : Nat → List HV → Option HV} {ext : Ext2}
theorem L1 {k : Nat} (p : Pr) (last : Int) (F : Nat) (hF : (F : Int) = p.flags) (hk : F < k) (hF8 : F ≤ 800) : Giv (evC2 (CC call ext k) (kp2 26) 0 k (subC (fnCode PP 26) [1, 1, 1, 1, 0]) Out2 (sl 0 127 [(1, .var 0 0), (3, .int .i64 last), (4, .arr 3 1 0 F), (5, .arr 6 1 0 F)]) [.cel (ePr p), .free, .free, rowI F (fun _ => 0), .free, .free, rowI F (fun _ => 0), .free, .free] fin2)
    (fun o => o.1 = .normal ∧ ∃ v, o.2 = ((sl 0 127 [(1, .var 0 0), (3, .int .i64 last), (4, .arr 1 1 0 F), (5, .arr 2 1 0 F), (6, .int .i64 F), (36, v)]), [.cel (ePr p), rowI F (fun _ => 0), rowI F (lo0 p F)])) := by
  refine Giv.seqX q11110 (Q1 := fun o => o = (.normal, (sl 0 127 [(1, .var 0 0), (3, .int .i64 last), (4, .arr 3 1 0 F), (5, .arr 6 1 0 F), (6, .int .i64 0)]), [.cel (ePr p), .free, .free, rowI F (fun _ => 0), .free, .free, rowI F (fun _ => 0), .free, .free])) ?_ ?_ (fun x e st h1 h2 => absurd (congrArg Prod.fst h2) h1)
  · rw [p5 call ext k p]; exact Giv.ok rfl
  · intro e st h
    injection h with _ h; injection h with he hs; subst he hs
    refine Giv.loopX b0 (Q1 := fun o => o.1 = .exit 0 ∧ ∃ v, o.2 = ((sl 0 127 [(1, .var 0 0), (3, .int .i64 last), (4, .arr 1 1 0 F), (5, .arr 2 1 0 F), (6, .int .i64 F), (36, v)]), [.cel (ePr p), rowI F (fun _ => 0), rowI F (lo0 p F)]))
      (e0 := (sl 0 127 [(1, .var 0 0), (3, .int .i64 last), (4, .arr 1 1 0 F), (5, .arr 2 1 0 F), (6, .int .i64 0)])) (st0 := [.cel (ePr p), rowI F (fun _ => 0), rowI F (fun _ => 0)]) (by kernel_rfl)
      (fun i e st => i ≤ F ∧ e = (sl 0 127 [(1, .var 0 0), (3, .int .i64 last), (4, .arr 1 1 0 F), (5, .arr 2 1 0 F), (6, .int .i64 i)]) ∧ st = [.cel (ePr p), rowI F (fun _ => 0), rowI F (lo0 p i)]) F ⟨Nat.zero_le _, rfl, rfl⟩ hk ?_ ?_
    · rintro i e st hi ⟨_, rfl, rfl⟩
      refine Giv.of_eq (r1 call ext k p last F i (fun _ => 0) (lo0 p i)) ?_
      refine Giv.p (fun h1 => ?_) (fun h1 => ?_)
      · refine Giv.t (by omega) ?_
        refine Giv.ok (.inl ⟨rfl, by omega, by omega, ?_, ?_⟩)
        · rw [wrap64 (by omega) (by omega)]; rfl
        · rw [rowI_upd]
          have : (fun j => if j = i then 21 else lo0 p i j) = lo0 p (i + 1) := by
            funext j; unfold lo0; split
            · rw [if_pos (by omega)]
            · split
              · rw [if_pos (by omega)]
              · rw [if_neg (by omega)]
          rw [this]; rfl
      · have : i = F := by omega
        subst this
        exact Giv.ok (.inr ⟨(by intro h; cases h), rfl, _, rfl⟩)
    · rintro x e st ⟨hx, v, h⟩
      have hx : x = .exit 0 := hx
      subst hx
      injection h with he hs; subst he hs
      exact Giv.ok ⟨rfl, v, rfl⟩
theorem L4 {k : Nat} (p : Pr) (r : Rule) (F : Nat) (i : Nat) (hi lo : Nat → Int) (hF : (F : Int) = p.flags) (hk : r.thens.length < k) (hl : Len r.thens) (hfl : ∀ t ∈ r.thens, 0 ≤ t.flag ∧ t.flag < p.flags) : Giv (evC2 (CC call ext k) (kp2 26) 0 k (subC (fnCode PP 26) [1, 1, 1, 1, 1, 0, 1, 0, 0, 1, 0, 0, 1, 0]) Out2 (sl 0 127 [(1, .var 0 0), (3, .int .i64 (lastS p)), (4, .arr 1 1 0 F), (5, .arr 2 1 0 F), (7, .int .i64 i), (8, .var 3 0)]) [.cel (ePr p), rowI F hi, rowI F lo, .cel (eRule r)] fin2)
    (fun o => (o.1 = .ret ∧ (∃ st, o.2 = ((sl 0 127 [(2, .bool false)]), st)) ∧ (r.thens.all fun t => !oddT p r t) = false) ∨ (o.1 = .normal ∧ (∃ j v, o.2 = ((sl 0 127 [(1, .var 0 0), (3, .int .i64 (lastS p)), (4, .arr 1 1 0 F), (5, .arr 2 1 0 F), (7, .int .i64 i), (8, .var 3 0), (9, .int .i64 j), (58, v)]), [.cel (ePr p), rowI F (hiR r r.thens.length hi), rowI F lo, .cel (eRule r)])) ∧ (r.thens.all fun t => !oddT p r t) = true)) := by
  unfold Len at hl
  refine Giv.seqX w10010 (Q1 := fun o => o = (.normal, (sl 0 127 [(1, .var 0 0), (3, .int .i64 (lastS p)), (4, .arr 1 1 0 F), (5, .arr 2 1 0 F), (7, .int .i64 i), (8, .var 3 0), (9, .int .i64 0)]), [.cel (ePr p), rowI F hi, rowI F lo, .cel (eRule r)])) ?_ ?_ (fun x e st h1 h2 => absurd (congrArg Prod.fst h2) h1)
  · rw [r2c]; exact Giv.ok rfl
  · intro e st h
    injection h with _ h; injection h with he hs; subst he hs
    refine Giv.loopX b4 (Q1 := fun o => (o.1 = .ret ∧ (∃ st, o.2 = ((sl 0 127 [(2, .bool false)]), st)) ∧ (r.thens.all fun t => !oddT p r t) = false) ∨ (o.1 = .exit 4 ∧ (∃ j v, o.2 = ((sl 0 127 [(1, .var 0 0), (3, .int .i64 (lastS p)), (4, .arr 1 1 0 F), (5, .arr 2 1 0 F), (7, .int .i64 i), (8, .var 3 0), (9, .int .i64 j), (58, v)]), [.cel (ePr p), rowI F (hiR r r.thens.length hi), rowI F lo, .cel (eRule r)])) ∧ (r.thens.all fun t => !oddT p r t) = true))
      (e0 := (sl 0 127 [(1, .var 0 0), (3, .int .i64 (lastS p)), (4, .arr 1 1 0 F), (5, .arr 2 1 0 F), (7, .int .i64 i), (8, .var 3 0), (9, .int .i64 0)])) (st0 := [.cel (ePr p), rowI F hi, rowI F lo, .cel (eRule r)]) (by kernel_rfl)
      (fun j e st => j ≤ r.thens.length ∧ e = (sl 0 127 [(1, .var 0 0), (3, .int .i64 (lastS p)), (4, .arr 1 1 0 F), (5, .arr 2 1 0 F), (7, .int .i64 i), (8, .var 3 0), (9, .int .i64 j)]) ∧ st = [.cel (ePr p), rowI F (hiR r j hi), rowI F lo, .cel (eRule r)] ∧ ∀ q, q < j → oddT p r (r.thens.getD q default) = false) r.thens.length ⟨Nat.zero_le _, rfl, rfl, fun q hq => by omega⟩ hk ?_ ?_
    · rintro j e st hj ⟨_, rfl, rfl, hall⟩
      refine Giv.of_eq (r4 call ext k p r (lastS p) F i j (hiR r j hi) lo) ?_
      refine Giv.p (fun h1 => ?_) (fun h1 => ?_)
      · have hjl : j < r.thens.length := by omega
        have hf := hfl _ (getD_mem' hjl)
        have hstep : hiR r (j + 1) hi = fun q => if q = (r.thens.getD j default).flag.toNat then max (hiR r j hi (r.thens.getD j default).flag.toNat) r.stratum else hiR r j hi q := by
          unfold hiR
          rw [foldl_take_succ _ _ _ _ hjl]
          funext q
          by_cases e : q = (r.thens.getD j default).flag.toNat
          · simp only [e, if_true]
          · simp only [e, if_false]
        refine Giv.t (by omega) ?_
        refine Giv.t (by omega) ?_
        refine Giv.I (n := hiR r j hi (0 + (r.thens.getD j default).flag.toNat)) rfl ?_
        refine Giv.t (by omega) ?_
        rw [Nat.zero_add]
        have hst : ∀ c : List HV, [Ob.cel c, Ob.row true none 1 F (updF (fun q => [HV.int .i64 (hiR r j hi q)]) (r.thens.getD j default).flag.toNat 0 [.int .i64 (max (hiR r j hi (r.thens.getD j default).flag.toNat) r.stratum)]), rowI F lo, Ob.cel (eRule r)] = [Ob.cel c, rowI F (hiR r (j + 1) hi), rowI F lo, .cel (eRule r)] := fun c => by rw [updI, hstep]; rfl
        refine Giv.p (fun h2 => ?_) (fun h2 => ?_)
        · refine Giv.b (fun h3 => ?_) (fun h3 => ?_)
          · refine Giv.ok (.inr ⟨(by intro h; cases h), .inl ⟨rfl, ⟨_, rfl⟩, ?_⟩⟩)
            refine all_not hjl ?_
            simp only [oddT]
            rw [decide_eq_true h2]
            simpa using h3
          · refine Giv.ok (.inl ⟨rfl, by omega, by omega, ?_, hst _, fun q hq => ?_⟩)
            · rw [wrap64 (by omega) (by omega)]; rfl
            · by_cases e : q = j
              · subst e
                simp only [oddT]
                rw [decide_eq_true h2]
                simpa using h3
              · exact hall q (by omega)
        · refine Giv.ok (.inl ⟨rfl, by omega, by omega, ?_, hst _, fun q hq => ?_⟩)
          · rw [wrap64 (by omega) (by omega)]; rfl
          · by_cases e : q = j
            · subst e
              simp only [oddT]
              rw [decide_eq_false h2]
              rfl
            · exact hall q (by omega)
      · have : j = r.thens.length := by omega
        subst this
        exact Giv.ok (.inr ⟨(by intro h; cases h), .inr ⟨rfl, ⟨_, _, rfl⟩, all_of fun q hq => by rw [hall q hq]; rfl⟩⟩)
    · rintro x e st (⟨hx, ⟨s, h⟩, ha⟩ | ⟨hx, ⟨j, v, h⟩, ha⟩)
      · have hx : x = .ret := hx
        subst hx
        injection h with he hs; subst he hs
        exact Giv.ok (.inl ⟨rfl, ⟨_, rfl⟩, ha⟩)
      · have hx : x = .exit 4 := hx
        subst hx
        injection h with he hs; subst he hs
        exact Giv.ok (.inr ⟨rfl, ⟨j, v, rfl⟩, ha⟩)

theorem L6 {k : Nat} (p : Pr) (r : Rule) (F : Nat) (i : Nat) (hi lo : Nat → Int) (j0 : Int) (v0 : HV) (hF : (F : Int) = p.flags) (hk : r.ifs.length < k) (hl : Len r.ifs) (hfl : ∀ t ∈ r.ifs, 0 ≤ t.flag ∧ t.flag < p.flags) : Giv (evC2 (CC call ext k) (kp2 26) 0 k (subC (fnCode PP 26) [1, 1, 1, 1, 1, 0, 1, 0, 0, 1, 0, 0, 1, 1]) Out2 (sl 0 127 [(1, .var 0 0), (3, .int .i64 (lastS p)), (4, .arr 1 1 0 F), (5, .arr 2 1 0 F), (7, .int .i64 i), (8, .var 3 0), (9, .int .i64 j0), (58, v0)]) [.cel (ePr p), rowI F hi, rowI F lo, .cel (eRule r)] fin2)
    (fun o => o.1 = .normal ∧ ∃ j v, o.2 = ((sl 0 127 [(1, .var 0 0), (3, .int .i64 (lastS p)), (4, .arr 1 1 0 F), (5, .arr 2 1 0 F), (7, .int .i64 i), (8, .var 3 0), (11, .int .i64 j), (91, v)]), [.cel (ePr p), rowI F hi, rowI F (loR r r.ifs.length lo), .cel (eRule r)])) := by
  unfold Len at hl
  refine Giv.seqX w10011 (Q1 := fun o => o = (.normal, (sl 0 127 [(1, .var 0 0), (3, .int .i64 (lastS p)), (4, .arr 1 1 0 F), (5, .arr 2 1 0 F), (7, .int .i64 i), (8, .var 3 0), (11, .int .i64 0)]), [.cel (ePr p), rowI F hi, rowI F lo, .cel (eRule r)])) ?_ ?_ (fun x e st h1 h2 => absurd (congrArg Prod.fst h2) h1)
  · rw [r2d]; exact Giv.ok rfl
  · intro e st h
    injection h with _ h; injection h with he hs; subst he hs
    refine Giv.loopX b6 (Q1 := fun o => o.1 = .exit 6 ∧ ∃ j v, o.2 = ((sl 0 127 [(1, .var 0 0), (3, .int .i64 (lastS p)), (4, .arr 1 1 0 F), (5, .arr 2 1 0 F), (7, .int .i64 i), (8, .var 3 0), (11, .int .i64 j), (91, v)]), [.cel (ePr p), rowI F hi, rowI F (loR r r.ifs.length lo), .cel (eRule r)]))
      (e0 := (sl 0 127 [(1, .var 0 0), (3, .int .i64 (lastS p)), (4, .arr 1 1 0 F), (5, .arr 2 1 0 F), (7, .int .i64 i), (8, .var 3 0), (11, .int .i64 0)])) (st0 := [.cel (ePr p), rowI F hi, rowI F lo, .cel (eRule r)]) (by kernel_rfl)
      (fun j e st => j ≤ r.ifs.length ∧ e = (sl 0 127 [(1, .var 0 0), (3, .int .i64 (lastS p)), (4, .arr 1 1 0 F), (5, .arr 2 1 0 F), (7, .int .i64 i), (8, .var 3 0), (11, .int .i64 j)]) ∧ st = [.cel (ePr p), rowI F hi, rowI F (loR r j lo), .cel (eRule r)]) r.ifs.length ⟨Nat.zero_le _, rfl, rfl⟩ hk ?_ ?_
    · rintro j e st hj ⟨_, rfl, rfl⟩
      refine Giv.of_eq (r6 call ext k p r (lastS p) F i j hi (loR r j lo)) ?_
      refine Giv.p (fun h1 => ?_) (fun h1 => ?_)
      · have hjl : j < r.ifs.length := by omega
        have hf := hfl _ (getD_mem' hjl)
        have hstep : loR r (j + 1) lo = fun q => if q = (r.ifs.getD j default).flag.toNat then min (loR r j lo (r.ifs.getD j default).flag.toNat) r.stratum else loR r j lo q := by
          unfold loR
          rw [foldl_take_succ _ _ _ _ hjl]
          funext q
          by_cases e : q = (r.ifs.getD j default).flag.toNat
          · simp only [e, if_true]
          · simp only [e, if_false]
        refine Giv.t (by omega) ?_
        refine Giv.t (by omega) ?_
        refine Giv.I (n := loR r j lo (0 + (r.ifs.getD j default).flag.toNat)) rfl ?_
        refine Giv.t (by omega) ?_
        rw [Nat.zero_add]
        refine Giv.ok (.inl ⟨rfl, by omega, by omega, ?_, ?_⟩)
        · rw [wrap64 (by omega) (by omega)]; rfl
        · rw [updI, hstep]; rfl
      · have : j = r.ifs.length := by omega
        subst this
        exact Giv.ok (.inr ⟨(by intro h; cases h), rfl, _, _, rfl⟩)
    · rintro x e st ⟨hx, j, v, h⟩
      have hx : x = .exit 6 := hx
      subst hx
      injection h with he hs; subst he hs
      exact Giv.ok ⟨rfl, j, v, rfl⟩

def noOdd (p : Pr) (r : Rule) : Bool := r.thens.all fun t => !oddT p r t
/-- A rule's round. -/
theorem L2r {k : Nat} (p : Pr) (F : Nat) (i : Nat) (hi lo : Nat → Int) (hF : (F : Int) = p.flags) (hk : BB + 2 ≤ k) (hp : OkPr p) (hfl : Flags p) : Giv (evC2 (CC call ext k) (kp2 26) 0 k (subC (fnCode PP 26) [1, 1, 1, 1, 1, 0, 1, 0, 0]) Out2 (sl 0 127 [(1, .var 0 0), (3, .int .i64 (lastS p)), (4, .arr 1 1 0 F), (5, .arr 2 1 0 F), (7, .int .i64 i)]) [.cel (ePr p), rowI F hi, rowI F lo] (rnd 0))
    (fun o => (p.rules.length ≤ i ∧ o.1 = .exit 2 ∧ ∃ v, o.2 = ((sl 0 127 [(1, .var 0 0), (3, .int .i64 (lastS p)), (4, .arr 1 1 0 F), (5, .arr 2 1 0 F), (7, .int .i64 i), (46, v)]), [.cel (ePr p), rowI F hi, rowI F lo])) ∨
      (i < p.rules.length ∧ o.1 = .ret ∧ (∃ st, o.2 = ((sl 0 127 [(2, .bool false)]), st)) ∧ noOdd p (p.rules.getD i default) = false) ∨
      (i < p.rules.length ∧ o = (.normal, (sl 0 127 [(1, .var 0 0), (3, .int .i64 (lastS p)), (4, .arr 1 1 0 F), (5, .arr 2 1 0 F), (7, .int .i64 ((i + 1 : Nat) : Int))]), [.cel (ePr p), rowI F (hiR (p.rules.getD i default) (p.rules.getD i default).thens.length hi), rowI F (loR (p.rules.getD i default) (p.rules.getD i default).ifs.length lo)]) ∧ noOdd p (p.rules.getD i default) = true)) := by
  have hl := hp.rules
  unfold Len at hl
  refine Giv.seqX w0 (Q1 := fun o => (p.rules.length ≤ i ∧ o.1 = .exit 2 ∧ ∃ v, o.2 = ((sl 0 127 [(1, .var 0 0), (3, .int .i64 (lastS p)), (4, .arr 1 1 0 F), (5, .arr 2 1 0 F), (7, .int .i64 i), (46, v)]), [.cel (ePr p), rowI F hi, rowI F lo])) ∨ (i < p.rules.length ∧ o.1 = .normal ∧ ∃ v, o.2 = ((sl 0 127 [(1, .var 0 0), (3, .int .i64 (lastS p)), (4, .arr 1 1 0 F), (5, .arr 2 1 0 F), (7, .int .i64 i), (46, v)]), [.cel (ePr p), rowI F hi, rowI F lo]))) ?_ ?_ ?_
  · rw [r2a]
    refine Giv.p (fun h => Giv.ok (.inr ⟨by omega, rfl, _, rfl⟩)) (fun h => Giv.ok (.inl ⟨by omega, rfl, _, rfl⟩))
  · rintro e st (⟨_, h, _⟩ | ⟨hi', _, v, h⟩)
    · cases h
    · injection h with he hs; subst he hs
      obtain ⟨r, hr⟩ : ∃ r, r = p.rules.getD i default := ⟨_, rfl⟩
      have hrm : r ∈ p.rules := hr ▸ getD_mem' hi'
      have hro := hp.rule r hrm
      have h1 := hro.thens
      have h2 := hro.ifs
      unfold Len at h1 h2
      unfold BB at hk
      refine Giv.seqX w1 (Q1 := fun o => (o.1 = .ret ∧ (∃ st, o.2 = ((sl 0 127 [(2, .bool false)]), st)) ∧ noOdd p r = false) ∨ (o.1 = .normal ∧ noOdd p r = true ∧ ∃ j v, o.2 = ((sl 0 127 [(1, .var 0 0), (3, .int .i64 (lastS p)), (4, .arr 1 1 0 F), (5, .arr 2 1 0 F), (7, .int .i64 i), (8, .var 3 0), (11, .int .i64 j), (91, v)]), [.cel (ePr p), rowI F (hiR r r.thens.length hi), rowI F (loR r r.ifs.length lo), .cel (eRule r)]))) ?_ ?_ ?_
      · refine Giv.blkX w10 ?_
        refine Giv.seqX w100 (Q1 := fun o => o = (.normal, (sl 0 127 [(1, .var 0 0), (3, .int .i64 (lastS p)), (4, .arr 1 1 0 F), (5, .arr 2 1 0 F), (7, .int .i64 i), (8, .var 3 0)]), [.cel (ePr p), rowI F hi, rowI F lo, .cel (eRule r)])) ?_ ?_ (fun x e st h1 h2 => absurd (congrArg Prod.fst h2) h1)
        · rw [r2b]
          refine Giv.t (by omega) (Giv.ok ?_)
          rw [hr]; rfl
        · intro e st h
          injection h with _ h; injection h with he hs; subst he hs
          refine Giv.seqX w1001 (L4 (call := call) (ext := ext) p r F i hi lo hF (by omega) hro.thens (hfl.th r hrm)) ?_ ?_
          · rintro e st (⟨h, _⟩ | ⟨_, ⟨j, v, h⟩, ha⟩)
            · cases h
            · injection h with he hs; subst he hs
              refine Giv.pieceX (L6 (call := call) (ext := ext) p r F i _ lo j v hF (by omega) hro.ifs (hfl.if_ r hrm)) ?_
              rintro x e st ⟨hx, j, v, h⟩
              have hx : x = .normal := hx
              subst hx
              injection h with he hs; subst he hs
              exact Giv.ok (.inr ⟨rfl, ha, j, v, rfl⟩)
          · rintro x e st hx (⟨h0, ⟨s, h⟩, ha⟩ | ⟨h0, _⟩)
            · have h0 : x = .ret := h0
              subst h0
              injection h with he hs; subst he hs
              exact Giv.ok (.inl ⟨rfl, ⟨_, rfl⟩, ha⟩)
            · exact absurd h0 hx
      · rintro e st (⟨h, _⟩ | ⟨_, ha, j, v, h⟩)
        · cases h
        · injection h with he hs; subst he hs
          rw [r2e]
          refine Giv.ok (.inr (.inr ⟨hi', ?_, by rw [← hr]; exact ha⟩))
          rw [wrap64 (by omega) (by omega), ← hr]
          rfl
      · rintro x e st hx (⟨h0, ⟨s, h⟩, ha⟩ | ⟨h0, _⟩)
        · have h0 : x = .ret := h0
          subst h0
          injection h with he hs; subst he hs
          exact Giv.ok (.inr (.inl ⟨hi', rfl, ⟨_, rfl⟩, by rw [← hr]; exact ha⟩))
        · exact absurd h0 hx
  · rintro x e st hx (⟨hle, h0, v, h⟩ | ⟨_, h0, _⟩)
    · have h0 : x = .exit 2 := h0
      subst h0
      injection h with he hs; subst he hs
      exact Giv.ok (.inl ⟨hle, rfl, v, rfl⟩)
    · exact absurd h0 hx
theorem L2 {k : Nat} (p : Pr) (F : Nat) (v0 : HV) (hF : (F : Int) = p.flags) (hk : BB + 2 ≤ k) (hp : OkPr p) (hfl : Flags p) : Giv (evC2 (CC call ext k) (kp2 26) 0 k (subC (fnCode PP 26) [1, 1, 1, 1, 1, 0]) Out2 (sl 0 127 [(1, .var 0 0), (3, .int .i64 (lastS p)), (4, .arr 1 1 0 F), (5, .arr 2 1 0 F), (6, .int .i64 F), (36, v0)]) [.cel (ePr p), rowI F (fun _ => 0), rowI F (lo0 p F)] fin2)
    (fun o => (o.1 = .ret ∧ (∃ st, o.2 = ((sl 0 127 [(2, .bool false)]), st)) ∧ p.rules.all (noOdd p) = false) ∨ (o.1 = .normal ∧ (∃ i v, o.2 = ((sl 0 127 [(1, .var 0 0), (3, .int .i64 (lastS p)), (4, .arr 1 1 0 F), (5, .arr 2 1 0 F), (7, .int .i64 i), (46, v)]), [.cel (ePr p), rowI F (hiP p p.rules.length), rowI F (loP p p.rules.length)])) ∧ p.rules.all (noOdd p) = true)) := by
  have hl := hp.rules
  unfold Len at hl
  have hFt : p.flags.toNat = F := by omega
  refine Giv.seqX q111110 (Q1 := fun o => o = (.normal, (sl 0 127 [(1, .var 0 0), (3, .int .i64 (lastS p)), (4, .arr 1 1 0 F), (5, .arr 2 1 0 F), (7, .int .i64 0)]), [.cel (ePr p), rowI F (fun _ => 0), rowI F (lo0 p F)])) ?_ ?_ (fun x e st h1 h2 => absurd (congrArg Prod.fst h2) h1)
  · rw [p9]; exact Giv.ok rfl
  · intro e st h
    injection h with _ h; injection h with he hs; subst he hs
    refine Giv.loopX b2 (Q1 := fun o => (o.1 = .ret ∧ (∃ st, o.2 = ((sl 0 127 [(2, .bool false)]), st)) ∧ p.rules.all (noOdd p) = false) ∨ (o.1 = .exit 2 ∧ (∃ i v, o.2 = ((sl 0 127 [(1, .var 0 0), (3, .int .i64 (lastS p)), (4, .arr 1 1 0 F), (5, .arr 2 1 0 F), (7, .int .i64 i), (46, v)]), [.cel (ePr p), rowI F (hiP p p.rules.length), rowI F (loP p p.rules.length)])) ∧ p.rules.all (noOdd p) = true))
      (e0 := (sl 0 127 [(1, .var 0 0), (3, .int .i64 (lastS p)), (4, .arr 1 1 0 F), (5, .arr 2 1 0 F), (7, .int .i64 0)])) (st0 := [.cel (ePr p), rowI F (fun _ => 0), rowI F (lo0 p F)]) (by kernel_rfl)
      (fun i e st => i ≤ p.rules.length ∧ e = (sl 0 127 [(1, .var 0 0), (3, .int .i64 (lastS p)), (4, .arr 1 1 0 F), (5, .arr 2 1 0 F), (7, .int .i64 i)]) ∧ st = [.cel (ePr p), rowI F (hiP p i), rowI F (loP p i)] ∧ ∀ q, q < i → noOdd p (p.rules.getD q default) = true) p.rules.length ⟨Nat.zero_le _, rfl, by unfold loP; rw [hFt]; rfl, fun q hq => by omega⟩ (by unfold BB at hk; omega) ?_ ?_
    · rintro i e st hi ⟨_, rfl, rfl, hall⟩
      refine (L2r (call := call) (ext := ext) p F i (hiP p i) (loP p i) hF hk hp hfl).mono ?_
      rintro ⟨x, e, st⟩ (⟨hle, hx, v, h⟩ | ⟨hlt, hx, ⟨s, h⟩, ha⟩ | ⟨hlt, h, ha⟩)
      · have hx : x = .exit 2 := hx
        subst hx
        injection h with he hs; subst he hs
        have : i = p.rules.length := by omega
        subst this
        exact .inr ⟨(by intro h; cases h), .inr ⟨rfl, ⟨_, v, rfl⟩, all_of hall⟩⟩
      · have hx : x = .ret := hx
        subst hx
        injection h with he hs; subst he hs
        exact .inr ⟨(by intro h; cases h), .inl ⟨rfl, ⟨_, rfl⟩, all_not hlt ha⟩⟩
      · injection h with hx h; injection h with he hs; subst hx he hs
        refine .inl ⟨rfl, hlt, by omega, rfl, ?_, fun q hq => ?_⟩
        · unfold hiP loP
          rw [foldl_take_succ _ _ _ _ hlt, foldl_take_succ _ _ _ _ hlt]
        · by_cases e : q = i
          · subst e; exact ha
          · exact hall q (by omega)
    · rintro x e st (⟨hx, ⟨s, h⟩, ha⟩ | ⟨hx, ⟨j, v, h⟩, ha⟩)
      · have hx : x = .ret := hx
        subst hx
        injection h with he hs; subst he hs
        exact Giv.ok (.inl ⟨rfl, ⟨_, rfl⟩, ha⟩)
      · have hx : x = .exit 2 := hx
        subst hx
        injection h with he hs; subst he hs
        exact Giv.ok (.inr ⟨rfl, ⟨j, v, rfl⟩, ha⟩)
/-- The last test: of each flag that passes. -/
def lowB (p : Pr) (i : Nat) : Bool := decide (hiP p p.rules.length i < loP p p.rules.length i)
theorem L8 {k : Nat} (p : Pr) (F : Nat) (i0 : Int) (v0 : HV) (hF : (F : Int) = p.flags) (hk : F < k) (hfl : Flags p) : Giv (evC2 (CC call ext k) (kp2 26) 0 k (subC (fnCode PP 26) [1, 1, 1, 1, 1, 1, 0]) Out2 (sl 0 127 [(1, .var 0 0), (3, .int .i64 (lastS p)), (4, .arr 1 1 0 F), (5, .arr 2 1 0 F), (7, .int .i64 i0), (46, v0)]) [.cel (ePr p), rowI F (hiP p p.rules.length), rowI F (loP p p.rules.length)] fin2)
    (fun o => (o.1 = .ret ∧ (∃ st, o.2 = ((sl 0 127 [(2, .bool false)]), st)) ∧ ∃ i : Nat, p.lasting ≤ i ∧ i < F ∧ lowB p i = false) ∨ (o.1 = .normal ∧ (∃ i v, o.2 = ((sl 0 127 [(1, .var 0 0), (4, .arr 1 1 0 F), (5, .arr 2 1 0 F), (13, .int .i64 i), (115, v)]), [.cel (ePr p), rowI F (hiP p p.rules.length), rowI F (loP p p.rules.length)])) ∧ ∀ i : Nat, p.lasting ≤ i → i < F → lowB p i = true)) := by
  have h1 := hfl.l0
  have h2 := hfl.l1
  have h3 := hfl.hi
  refine Giv.seqX q1111110 (Q1 := fun o => o = (.normal, (sl 0 127 [(1, .var 0 0), (4, .arr 1 1 0 F), (5, .arr 2 1 0 F), (13, .int .i64 p.lasting)]), [.cel (ePr p), rowI F (hiP p p.rules.length), rowI F (loP p p.rules.length)])) ?_ ?_ (fun x e st h1 h2 => absurd (congrArg Prod.fst h2) h1)
  · rw [p25]; exact Giv.ok rfl
  · intro e st h
    injection h with _ h; injection h with he hs; subst he hs
    refine Giv.loopX b8 (Q1 := fun o => (o.1 = .ret ∧ (∃ st, o.2 = ((sl 0 127 [(2, .bool false)]), st)) ∧ ∃ i : Nat, p.lasting ≤ i ∧ i < F ∧ lowB p i = false) ∨ (o.1 = .exit 8 ∧ (∃ i v, o.2 = ((sl 0 127 [(1, .var 0 0), (4, .arr 1 1 0 F), (5, .arr 2 1 0 F), (13, .int .i64 i), (115, v)]), [.cel (ePr p), rowI F (hiP p p.rules.length), rowI F (loP p p.rules.length)])) ∧ ∀ i : Nat, p.lasting ≤ i → i < F → lowB p i = true))
      (e0 := (sl 0 127 [(1, .var 0 0), (4, .arr 1 1 0 F), (5, .arr 2 1 0 F), (13, .int .i64 p.lasting)])) (st0 := [.cel (ePr p), rowI F (hiP p p.rules.length), rowI F (loP p p.rules.length)]) (by kernel_rfl)
      (fun d e st => (∃ i : Nat, (i : Int) = p.lasting + d ∧ i ≤ F ∧ e = (sl 0 127 [(1, .var 0 0), (4, .arr 1 1 0 F), (5, .arr 2 1 0 F), (13, .int .i64 i)]) ∧ ∀ q : Nat, p.lasting ≤ q → q < i → lowB p q = true) ∧ st = [.cel (ePr p), rowI F (hiP p p.rules.length), rowI F (loP p p.rules.length)]) (F - p.lasting.toNat) ⟨⟨p.lasting.toNat, by omega, by omega, by rw [Int.toNat_of_nonneg h1], fun q hq hq2 => by omega⟩, rfl⟩ (by omega) ?_ ?_
    · rintro d e st hd ⟨⟨i, hi, hiF, rfl, hall⟩, rfl⟩
      refine Giv.of_eq (r8 call ext k p F i (hiP p p.rules.length) (loP p p.rules.length)) ?_
      refine Giv.p (fun h4 => ?_) (fun h4 => ?_)
      · refine Giv.t (by omega) ?_
        refine Giv.I (n := hiP p p.rules.length (0 + i)) rfl ?_
        refine Giv.t (by omega) ?_
        refine Giv.I (n := loP p p.rules.length (0 + i)) rfl ?_
        rw [Nat.zero_add]
        refine Giv.p (fun h5 => ?_) (fun h5 => ?_)
        · exact Giv.ok (.inr ⟨(by intro h; cases h), .inl ⟨rfl, ⟨_, rfl⟩, i, by omega, by omega, by unfold lowB; exact decide_eq_false (by omega)⟩⟩)
        · refine Giv.ok (.inl ⟨rfl, by omega, ⟨i + 1, by omega, by omega, ?_, fun q hq hq2 => ?_⟩, rfl⟩)
          · rw [wrap64 (by omega) (by omega)]; rfl
          · by_cases e : q = i
            · subst e; unfold lowB; exact decide_eq_true (by omega)
            · exact hall q hq (by omega)
      · have : i = F := by omega
        subst this
        exact Giv.ok (.inr ⟨(by intro h; cases h), .inr ⟨rfl, ⟨_, _, rfl⟩, hall⟩⟩)
    · rintro x e st (⟨hx, ⟨s, h⟩, ha⟩ | ⟨hx, ⟨j, v, h⟩, ha⟩)
      · have hx : x = .ret := hx
        subst hx
        injection h with he hs; subst he hs
        exact Giv.ok (.inl ⟨rfl, ⟨_, rfl⟩, ha⟩)
      · have hx : x = .exit 8 := hx
        subst hx
        injection h with he hs; subst he hs
        exact Giv.ok (.inr ⟨rfl, ⟨j, v, rfl⟩, ha⟩)
theorem lastS_get (p : Pr) (h : 0 < p.rules.length) : lastS p = (p.rules.getD (p.rules.length - 1) default).stratum := by
  unfold lastS
  rw [List.getLast?_eq_getElem?, List.getD_eq_getElem?_getD, List.getElem?_eq_getElem (by omega)]
  rfl
theorem f26 {k : Nat} (hx : ext 26 = none) (hk : BB + 3 ≤ k) (p : Pr) (hp : OkPr p) (hfl : Flags p) : callX EE call ext k 26 [.agg (ePr p)] [] = some (.bool (strataB p), []) := by
  obtain ⟨k, rfl, hk⟩ := fuel_pos hk
  rw [callX_eq hx rfl Go.Proofs.Try.func26]
  have hl := hp.rules
  have h8 := hfl.hi
  have hlo := hfl.lo
  unfold Len at hl
  obtain ⟨F, hF⟩ : ∃ F : Nat, (F : Int) = p.flags := ⟨p.flags.toNat, Int.toNat_of_nonneg hlo⟩
  have hFt : p.flags.toNat = F := by omega
  have hres : ∀ (b : Bool) (st : List Ob), retX PP 0 Go.Proofs.Try.f26.results.toList (sl 0 127 [(2, .bool b)]) st = some (.bool b, []) := fun b st => by kernel_rfl
  have hstr : ∀ b, (p.rules.all (noOdd p) && b) = strataB p → Giv (some (HV.bool ((p.rules.all (noOdd p)) && b), ([] : List Ob))) (fun r => r = (.bool (strataB p), [])) := fun b h => Giv.ok (by rw [h])
  refine Giv.eq ?_
  refine Giv.bodyX (C := CC call ext k) (kp := kp2 26) c26 ?_
  have he : [HV.agg (ePr p)] ++ List.replicate (Go.Proofs.Try.f26.ntmps - [HV.agg (ePr p)].length) HV.undef = (sl 0 127 [(0, .agg (ePr p))]) := by kernel_rfl
  rw [he]
  refine Giv.seqX q0 (Q1 := fun o => o = (.normal, (sl 0 127 [(1, .var 0 0)]), [.cel (ePr p)])) ?_ ?_ (fun x e st h1 h2 => absurd (congrArg Prod.fst h2) h1)
  · exact Giv.of_eq (p0 call ext k p) (Giv.ok rfl)
  intro e st h
  injection h with _ h; injection h with he hs; subst he hs
  refine Giv.seqX q1 (Q1 := fun o => o = (.normal, (sl 0 127 [(1, .var 0 0), (3, .int .i64 0)]), [.cel (ePr p)])) ?_ ?_ (fun x e st h1 h2 => absurd (congrArg Prod.fst h2) h1)
  · exact Giv.of_eq (p1 call ext k p) (Giv.ok rfl)
  intro e st h
  injection h with _ h; injection h with he hs; subst he hs
  refine Giv.seqX q11 (Q1 := fun o => o.1 = .normal ∧ ∃ v, o.2 = ((sl 0 127 [(1, .var 0 0), (3, .int .i64 (lastS p)), (17, v)]), [.cel (ePr p)])) ?_ ?_ (fun x e st h1 h2 => absurd h2.1 h1)
  · refine Giv.of_eq (p2 call ext k p) ?_
    refine Giv.p (fun h => ?_) (fun h => ?_)
    · rw [wrap64 (by omega) (by omega), show ((p.rules.length : Int) - 1).toNat = p.rules.length - 1 by omega, ← lastS_get p (by omega)]
      refine Giv.t (by omega) (Giv.ok ⟨rfl, .undef, rfl⟩)
    · have h0 : p.rules = [] := List.eq_nil_of_length_eq_zero (by omega)
      have hl0 : lastS p = 0 := by unfold lastS; rw [h0]; rfl
      rw [hl0]
      exact Giv.ok ⟨rfl, _, rfl⟩
  rintro e st ⟨_, v, h⟩
  injection h with he hs; subst he hs
  refine Giv.seqX q111 (Q1 := fun o => o = (.normal, (sl 0 127 [(1, .var 0 0), (3, .int .i64 (lastS p)), (4, .arr 3 1 0 F), (5, .arr 6 1 0 F)]), [.cel (ePr p), .free, .free, rowI F (fun _ => 0), .free, .free, rowI F (fun _ => 0), .free, .free])) ?_ ?_ (fun x e st h1 h2 => absurd (congrArg Prod.fst h2) h1)
  · refine Giv.of_eq (p3 call ext k p (lastS p) v) ?_
    refine Giv.t rfl (Giv.t (by omega) (Giv.t rfl (Giv.t (by omega) (Giv.ok ?_))))
    rw [hFt]; rfl
  intro e st h
  injection h with _ h; injection h with he hs; subst he hs
  refine Giv.seqX q1111 (L1 (call := call) (ext := ext) p (lastS p) F hF (by unfold BB at hk; omega) (by omega)) ?_ (fun x e st h1 h2 => absurd h2.1 h1)
  rintro e st ⟨_, v, h⟩
  injection h with he hs; subst he hs
  refine Giv.seqX q11111 (L2 (call := call) (ext := ext) p F v hF (by omega) hp hfl) ?_ ?_
  · rintro e st (⟨h, _⟩ | ⟨_, ⟨i, v, h⟩, ha⟩)
    · cases h
    · injection h with he hs; subst he hs
      refine Giv.seqX q111111 (L8 (call := call) (ext := ext) p F i v hF (by unfold BB at hk; omega) hfl) ?_ ?_
      · rintro e st (⟨h, _⟩ | ⟨_, ⟨i, v, h⟩, hb⟩)
        · cases h
        · injection h with he hs; subst he hs
          refine Giv.pieceX (Q1 := fun o => o.1 = .ret ∧ ∃ st, o.2 = ((sl 0 127 [(2, .bool true)]), st)) ?_ ?_
          · exact Giv.of_eq (p30 call ext k p F i (hiP p p.rules.length) (loP p p.rules.length) v) (Giv.ok ⟨rfl, _, rfl⟩)
          · rintro x e st ⟨hx, s, h⟩
            have hx : x = .ret := hx
            subst hx
            injection h with he hs; subst he hs
            refine Giv.of_eq (hres true _) (Giv.ok ?_)
            have : strataB p = true := by
              unfold strataB
              rw [hFt]
              simp only [Bool.and_eq_true]
              refine ⟨ha, ?_⟩
              rw [List.all_eq_true]
              intro q hq
              rw [List.mem_range] at hq
              by_cases h1 : (q : Int) < p.lasting
              · simp [h1]
              · have := hb q (by omega) hq
                unfold lowB at this
                rw [this]; simp
            rw [this]
      · rintro x e st hx0 (⟨hx, ⟨s, h⟩, q, h1, h2, h3⟩ | ⟨hx, _⟩)
        · have hx : x = .ret := hx
          subst hx
          injection h with he hs; subst he hs
          refine Giv.of_eq (hres false _) (Giv.ok ?_)
          have : strataB p = false := by
            unfold strataB
            rw [hFt, Bool.and_eq_false_iff]
            right
            cases hb : (List.range F).all fun i => decide ((i : Int) < p.lasting) || decide (hiP p p.rules.length i < loP p p.rules.length i) with
            | false => rfl
            | true =>
              have := List.all_eq_true.1 hb q (List.mem_range.2 h2)
              unfold lowB at h3
              rw [h3, decide_eq_false (by omega)] at this
              cases this
          rw [this]
        · exact absurd hx hx0
  · rintro x e st hx0 (⟨hx, ⟨s, h⟩, ha⟩ | ⟨hx, _⟩)
    · have hx : x = .ret := hx
      subst hx
      injection h with he hs; subst he hs
      refine Giv.of_eq (hres false _) (Giv.ok ?_)
      have : strataB p = false := by
        unfold strataB
        have ha : (p.rules.all fun r => r.thens.all fun t => !oddT p r t) = false := ha
        rw [ha]; rfl
      rw [this]
    · exact absurd hx hx0
end
end Go.Rul
end
