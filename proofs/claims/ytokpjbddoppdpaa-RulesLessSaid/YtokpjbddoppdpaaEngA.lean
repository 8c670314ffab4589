/- A verified interpreter of the model's code over plain values: the interpreter. -/
import Derived.Calls
import Derived.Orders
import Derived.LoopN
import Derived.Below
import Derived.KernelRfl
import Derived.Still
import Derived.WalkKit
import Derived.Maps.AppendAt
import Derived.Laws.AppendOwn
import Derived.Laws.OwnMore
import Derived.Deep.Draws
import Derived.Laws.CopyRow
set_option linter.unusedVariables false
set_option linter.unusedSimpArgs false
set_option linter.unusedSectionVars false
section
namespace Go.Eng
variable {β : Type}

/-- Plain values. -/
inductive HV : Type where
  | undef
  | int (k : IntKind) (n : Int)
  | bool (b : Bool)
  | str (s : ByteArray)
  | lst (sz n : Nat) (f : Nat → List HV)
  | own (t sz n : Nat) (f : Nat → List HV)
  | nils
  | arr (r sz lo n : Nat)
  | ptr (cs : List HV) (off : Nat)
  | var (r off : Nat)
  | elt (r sz i off : Nat)
  | nilp
  | fn (f : Nat) (caps : List HV)
  | nilf
  | agg (cs : List HV)
  | tup (vs : List HV)
  | mp (r : Nat)
  | ow (r : Nat)
  | nl (sz : Nat) (z : List HV)
  deriving Inhabited

/-- What a call holds for itself: variables, rows, rights to append. -/
inductive Slot : Type where
  | var (m : Bool) (cs : List HV)
  | row (m : Bool) (sz n : Nat) (f : Nat → List HV)
  | tok (e : Nat)
  deriving Inhabited

/-- A branch; a step behind a call. -/
def br {α : Type} (b : Bool) (x y : α) : α := match b with | true => x | false => y
/-- A branch whose answer the types tell. -/
def brs {α : Type} (b : Bool) (x y : α) : α := match b with | true => x | false => y
theorem brs_eq {α : Type} (b : Bool) (x y : α) : brs b x y = br b x y := rfl
def bnd {α β : Type} (x : Option α) (f : α → Option β) : Option β := match x with | some a => f a | none => none
def bndB {β : Type} (x : Option HV) (f : Bool → Option β) : Option β := match x with | some (.bool b) => f b | _ => none
def bndI {β : Type} (k : IntKind) (x : Option HV) (f : Int → Option β) : Option β := match x with | some (.int k' n) => if k = k' then f n else none | _ => none
def bndS {β : Type} (x : Option HV) (f : ByteArray → Option β) : Option β := match x with | some (.str s) => f s | _ => none
def bndL {β : Type} (sz : Nat) (x : Option HV) (f : Nat → (Nat → List HV) → Option β) : Option β := match x with | some (.lst sz' n g) => if sz = sz' then f n g else none | _ => none
inductive Ex where
  | normal | exit (id : Nat) | ret
def bnd3 {β : Type} (x : Option (Ex × List HV × List Slot)) (f : Ex → List HV → List Slot → Option β) : Option β := match x with | some (x, e, st) => f x e st | none => none
theorem br_true {α : Type} (x y : α) : br true x y = x := rfl
theorem br_false {α : Type} (x y : α) : br false x y = y := rfl
theorem bnd_some {α β : Type} (a : α) (f : α → Option β) : bnd (some a) f = f a := rfl
theorem bnd_none {α β : Type} (f : α → Option β) : bnd none f = none := rfl
theorem br_some {α : Type} {b : Bool} {x y : Option α} {r : α} (h : br b x y = some r) : (b = true ∧ x = some r) ∨ (b = false ∧ y = some r) := by cases b <;> simp_all [br]
theorem br_none {α : Type} {b : Bool} {x : Option α} {r : α} (h : br b x none = some r) : b = true ∧ x = some r := by cases b <;> simp_all [br]
theorem br_none' {α : Type} {b : Bool} {x : Option α} {r : α} (h : br b none x = some r) : b = false ∧ x = some r := by cases b <;> simp_all [br]
theorem bnd_eq {α β : Type} {x : Option α} {f : α → Option β} {r : β} (h : bnd x f = some r) : ∃ a, x = some a ∧ f a = some r := by cases x <;> simp_all [bnd]
theorem bndB_eq {β : Type} {x : Option HV} {f : Bool → Option β} {r : β} (h : bndB x f = some r) : ∃ b, x = some (.bool b) ∧ f b = some r := by
  unfold bndB at h; split at h <;> simp_all
theorem bndI_eq {β : Type} {k : IntKind} {x : Option HV} {f : Int → Option β} {r : β} (h : bndI k x f = some r) : ∃ n, x = some (.int k n) ∧ f n = some r := by
  unfold bndI at h
  split at h
  · split at h
    · subst_vars; exact ⟨_, rfl, h⟩
    · cases h
  · cases h
theorem bndS_eq {β : Type} {x : Option HV} {f : ByteArray → Option β} {r : β} (h : bndS x f = some r) : ∃ s, x = some (.str s) ∧ f s = some r := by
  unfold bndS at h; split at h <;> simp_all
theorem bndL_eq {β : Type} {sz : Nat} {x : Option HV} {f : Nat → (Nat → List HV) → Option β} {r : β} (h : bndL sz x f = some r) : ∃ n g, x = some (.lst sz n g) ∧ f n g = some r := by
  unfold bndL at h
  split at h
  · split at h
    · subst_vars; exact ⟨_, _, rfl, h⟩
    · cases h
  · cases h
theorem bnd3_eq {β : Type} {x : Option (Ex × List HV × List Slot)} {f : Ex → List HV → List Slot → Option β} {r : β} (h : bnd3 x f = some r) : ∃ a e st, x = some (a, e, st) ∧ f a e st = some r := by
  cases x with
  | none => cases h
  | some p => exact ⟨p.1, p.2.1, p.2.2, rfl, h⟩
theorem bndB_some {β : Type} (b : Bool) (f : Bool → Option β) : bndB (some (.bool b)) f = f b := rfl
theorem bndI_some {β : Type} (k : IntKind) (n : Int) (f : Int → Option β) : bndI k (some (.int k n)) f = f n := by simp [bndI]
theorem bndS_some {β : Type} (s : ByteArray) (f : ByteArray → Option β) : bndS (some (.str s)) f = f s := rfl
theorem bndL_some {β : Type} (sz n : Nat) (g : Nat → List HV) (f : Nat → (Nat → List HV) → Option β) : bndL sz (some (.lst sz n g)) f = f n g := by simp [bndL]
theorem bnd3_some {β : Type} (x : Ex) (e : List HV) (st : List Slot) (f : Ex → List HV → List Slot → Option β) : bnd3 (some (x, e, st)) f = f x e st := rfl

def cst : Value → HV
  | .bool b => .bool b
  | .int k n => .int k n
  | .string s => .str s
  | .slice none 0 0 => .nils
  | .pointer none => .nilp
  | .nilFunc => .nilf
  | _ => .undef

def ev (e : List HV) : Operand → HV
  | .tmp t => e.getD t .undef
  | .const v => cst v
  | .global _ => .undef
  | .func f => .fn f []

/-- An operand, told as it is. -/
def getK : List HV → Nat → (HV → Option β) → Option β
  | [], _, K => K .undef
  | h :: _, 0, K => K h
  | _ :: t, n + 1, K => getK t n K
def evK (e : List HV) (x : Operand) (K : HV → Option β) : Option β := match x with
  | .tmp t => getK e t K
  | .const v => match v with
    | .bool b => K (.bool b)
    | .int k n => K (.int k n)
    | .string s => K (.str s)
    | .slice none 0 0 => K .nils
    | v => K (cst v)
  | .global _ => K .undef
  | .func f => K (.fn f [])
def evKs (e : List HV) (xs : List Operand) (K : List HV → Option β) : Option β := match xs with
  | [] => K []
  | x :: xs => evK e x fun v => evKs e xs fun vs => K (v :: vs)

/-- A slot is set; the row of slots is told cell by cell, so that it is never reckoned twice. -/
def setK : List HV → Nat → HV → (List HV → Option β) → Option β
  | [], _, _, K => K []
  | _ :: t, 0, v, K => K (v :: t)
  | h :: t, d + 1, v, K => setK t d v fun t' => K (h :: t')
def put (e : List HV) (d : Option Nat) (v : HV) (K : List HV → Option β) : Option β := match d with | none => K e | some d => setK e d v K
def mapK (f : HV → HV) : List HV → (List HV → Option β) → Option β
  | [], K => K []
  | h :: t, K => mapK f t fun t' => K (f h :: t')

def cellsH : HV → List HV
  | .agg cs => cs
  | v => [v]

def szT (P : Program) (t : TypeId) : Option Nat := match P.info? t with | some i => some i.size | none => none
def aggT (P : Program) (t : TypeId) : Option Bool := match P.underlying t with | some (.struct _) => some true | some (.array _ _) => some true | some _ => some false | none => none
def okH : HV → Bool
  | .undef => false
  | _ => true
def isCell : HV → Bool
  | .agg _ => false
  | _ => true
def zeroC (v : Value) : Option (List HV) := match (v.cells.toList.map cst).all okH with
  | true => some (v.cells.toList.map cst)
  | false => none
/-- A type's zero, with empty lists where a slice stands. -/
def zHs (f : TypeId → Option (List HV)) : List Field → Option (List HV)
  | [] => some []
  | x :: fs => match f x.type, zHs f fs with
    | some a, some b => some (a ++ b)
    | _, _ => none
def zH (P : Program) : Nat → TypeId → Option (List HV)
  | 0, _ => none
  | d + 1, t => match P.underlying t with
    | some .bool => some [.bool false]
    | some (.int k) => some [.int k 0]
    | some .string => some [.str ByteArray.empty]
    | some (.slice e) => match zH P d e, szT P e with
      | some z, some n => some [.lst n 0 (fun _ => z)]
      | _, _ => none
    | some (.pointer _) => some [.nilp]
    | some (.func ..) => some [.nilf]
    | some (.struct fs) => zHs (zH P d) fs.toList
    | _ => none
def likeZ : HV → HV → Bool
  | .lst _ 0 _, .nils => true
  | .nils, .nils => true
  | .nilp, .nilp => true
  | .nilf, .nilf => true
  | .int k a, .int k' b => decide (k = k') && decide (a = b)
  | .bool a, .bool b => a == b
  | .str a, .str b => decide (a = b)
  | _, _ => false
def likeZs : List HV → List HV → Bool
  | [], [] => true
  | a :: as, b :: bs => likeZ a b && likeZs as bs
  | _, _ => false
def zeroV (P : Program) (t : TypeId) (v : Value) : Option (List HV) := match zeroC v with
  | some z => match zH P 12 t with
    | some z' => match likeZs z' z with
      | true => some z'
      | false => some z
    | none => some z
  | none => none
def zeroT (P : Program) (t : TypeId) : Option (List HV) := match P.info? t with
  | some i => match i.zero with
    | some v => zeroV P t v
    | none => none
  | none => none
/-- A slice type's element: its type, its cells, its zero, its bytes. -/
def elemT (P : Program) (t : TypeId) : Option (Nat × Nat × List HV × Nat) := match P.underlying t with
  | some (.slice e) => match P.info? e with
    | some i => match i.zero with
      | some v => match zeroV P e v with
        | some z => if z.length = i.size ∧ 0 < i.size ∧ 0 < i.bytes then some (e, i.size, z, i.bytes) else none
        | none => none
      | none => none
    | none => none
  | _ => none

/-- No slice is an empty list, where the type is known. -/
def nz (P : Program) (t : TypeId) : HV → HV
  | .nils => match elemT P t with
    | some (_, sz, z, _) => .lst sz 0 (fun _ => z)
    | none => .nils
  | h => h
def nzs (P : Program) : List TypeId → List HV → List HV
  | t :: ts, v :: vs => nz P t v :: nzs P ts vs
  | _, vs => vs
def paramsT (P : Program) (f : Nat) : List TypeId := match P.funcs[f]? with
  | some fn => fn.params.toList
  | none => []
def fieldT (fs : Array Field) (i : Nat) : TypeId := match fs[i]? with
  | some f => f.type
  | none => 0

def isNils : HV → Bool
  | .nils => true
  | _ => false
def fz : Slot → Slot
  | .var _ cs => .var false cs
  | .row _ sz n f => .row false sz n f
  | .tok e => .tok e

/-- A value made fit to be kept or handed on. In a quiet region nothing is settled that isn't. -/
def toC (q : Bool) (st : List Slot) (h : HV) (K : HV → List Slot → Option β) : Option β :=
  match h with
  | .own _ sz n f => K (.lst sz n f) st
  | .var r off => match st[r]? with
    | some (.var m cs) => brs (q && m) none (K (.ptr cs off) (st.set r (.var false cs)))
    | _ => none
  | .arr r sz lo n => match st[r]? with
    | some (.row m sz' n' f) => brs (q && m) none (br (sz == sz' && decide (lo + n ≤ n')) (K (.lst sz n (fun i => f (lo + i))) (st.set r (.row false sz' n' f))) none)
    | _ => none
  | .elt r sz i off => match st[r]? with
    | some (.row m sz' n' f) => brs (q && m) none (br (sz == sz' && decide (i < n')) (K (.ptr (f i) off) (st.set r (.row false sz' n' f))) none)
    | _ => none
  | .undef => none
  | .tup _ => none
  | h => K h st

def toCs (q : Bool) (st : List Slot) (hs : List HV) (K : List HV → List Slot → Option β) : Option β :=
  match hs with
  | [] => K [] st
  | h :: hs => toC q st h fun v st => toCs q st hs fun vs st => K (v :: vs) st

def loadC (P : Program) (t : TypeId) (cs : List HV) (off : Nat) (K : HV → Option β) : Option β :=
  match aggT P t, szT P t with
  | some true, some n => brs (decide (off + n ≤ cs.length)) (K (.agg ((cs.drop off).take n))) none
  | some false, some _ => match cs[off]? with
    | some v => K v
    | none => none
  | _, _ => none

/-- The cells of an element, its length known. -/
def splice (cs : List HV) (off : Nat) (new : List HV) : List HV := cs.take off ++ new ++ cs.drop (off + new.length)

def eqC : HV → HV → Option Bool
  | .int k a, .int k' b => if k = k' then some (a == b) else none
  | .bool a, .bool b => some (a == b)
  | .str a, .str b => some (decide (a = b))
  | _, _ => none
def eqCs : List HV → List HV → Option Bool
  | [], [] => some true
  | [a], [b] => eqC a b
  | a :: as, b :: bs => match eqC a b, eqCs as bs with
    | some x, some y => some (x && y)
    | _, _ => none
  | _, _ => none

/-- A struct type whose fields are whole numbers, bools and strings, a cell each. -/
def plainT (P : Program) (t : TypeId) : Bool := match P.underlying t with
  | some .bool => true
  | some (.int _) => true
  | some .string => true
  | _ => false
def flatFs (P : Program) : Nat → List Field → Bool
  | _, [] => true
  | k, f :: fs => f.name != "_" && f.offset == k && plainT P f.type && flatFs P (k + 1) fs
/-- Cells that fit such a type. -/
def fitC (P : Program) (t : TypeId) (h : HV) : Bool := match P.underlying t with
  | some .bool => match h with | .bool _ => true | _ => false
  | some (.int k) => match h with | .int k' _ => decide (k = k') | _ => false
  | some .string => match h with | .str _ => true | _ => false
  | _ => false
def fitsT (P : Program) : List Field → List HV → Bool
  | [], [] => true
  | f :: fs, h :: hs => fitC P f.type h && fitsT P fs hs
  | _, _ => false

def flatT (P : Program) (t : TypeId) (as bs : List HV) : Bool := match P.underlying t with
  | some (.struct fs) => !P.stoodInHeld t && flatFs P 0 fs.toList && fitsT P fs.toList as && fitsT P fs.toList bs
  | _ => false
def evBin (P : Program) (op : BinOp) (t : TypeId) (x y : HV) (K : HV → Option β) : Option β :=
  match x, y with
  | .int k a, .int k' b => if k = k' then match op with
      | .add => K (.int k (k.wrap (a + b)))
      | .sub => K (.int k (k.wrap (a - b)))
      | .mul => K (.int k (k.wrap (a * b)))
      | .eql => K (.bool (decide (a = b)))
      | .neq => K (.bool (!decide (a = b)))
      | .lss => K (.bool (decide (a < b)))
      | .leq => K (.bool (decide (a ≤ b)))
      | .gtr => K (.bool (decide (b < a)))
      | .geq => K (.bool (decide (b ≤ a)))
      | _ => none
    else none
  | .str a, .str b => match op with
      | .add => br (decide (a.size + b.size ≤ 9223372036854775807)) (K (.str (a ++ b))) none
      | .eql => K (.bool (decide (a = b)))
      | .neq => K (.bool (!decide (a = b)))
      | _ => none
  | .bool a, .bool b => match P.underlying t with
      | some .bool => match op with
        | .eql => K (.bool (a == b))
        | .neq => K (.bool (!(a == b)))
        | _ => none
      | _ => none
  | .agg as, .agg bs => brs (flatT P t as bs) (match eqCs as bs with
      | some b => match op with
        | .eql => K (.bool b)
        | .neq => K (.bool (!b))
        | _ => none
      | none => none) none
  | .ptr _ _, .nilp | .var _ _, .nilp | .elt _ _ _ _, .nilp => match P.underlying t with
      | some (.pointer _) => match op with
        | .eql => K (.bool false)
        | .neq => K (.bool true)
        | _ => none
      | _ => none
  | .nilp, .nilp => match P.underlying t with
      | some (.pointer _) => match op with
        | .eql => K (.bool true)
        | .neq => K (.bool false)
        | _ => none
      | _ => none
  | _, _ => none

def evUn (op : UnOp) (x : HV) (K : HV → Option β) : Option β :=
  match op, x with
  | .not, .bool b => K (.bool (!b))
  | .neg, .int k n => K (.int k (k.wrap (0 - n)))
  | _, _ => none

def byteAt (s : ByteArray) (i : Nat) : Int := ((s.data.getD i 0).toNat : Int)

def evIdx (x : HV) (i : Int) (sz : Nat) (K : HV → Option β) : Option β :=
  match x with
  | .lst s n f | .own _ s n f => brs (s == sz) (br (decide (0 ≤ i ∧ i < n)) (K (.ptr (f i.toNat) 0)) none) none
  | .arr r s lo n => brs (s == sz) (br (decide (0 ≤ i ∧ i < n)) (K (.elt r s (lo + i.toNat) 0)) none) none
  | _ => none

def evField (P : Program) (t : TypeId) (i : Nat) (x : HV) (K : HV → Option β) : Option β :=
  match P.underlying t with
  | some (.struct fs) => match fs[i]? with
    | some f => match szT P f.type with
      | some n => brs (n == 0) none (match x with
        | .ptr cs off => K (.ptr cs (off + f.offset))
        | .var r off => K (.var r (off + f.offset))
        | .elt r sz j off => K (.elt r sz j (off + f.offset))
        | _ => none)
      | none => none
    | none => none
  | _ => none

def sliceN (n : Nat) (lo hi : Option HV) (K : Nat → Nat → Option β) : Option β :=
  match (match hi with | none => some (n : Int) | some (.int .i64 h) => some h | some _ => none), (match lo with | none => some (0 : Int) | some (.int .i64 l) => some l | some _ => none) with
  | some h, some l => br (decide (0 ≤ h ∧ h ≤ n)) (br (decide (0 ≤ l ∧ l ≤ h)) (K l.toNat h.toNat) none) none
  | _, _ => none

/-- What stands behind a list's end. -/
def zOf (P : Program) (t : TypeId) : List HV := match elemT P t with
  | some (_, _, z, _) => z
  | none => []
def cutF (n l : Nat) (f : Nat → List HV) (z : List HV) : Nat → List HV := fun i => cond (decide (i < n)) (f (l + i)) z
def evSlice (P : Program) (t : TypeId) (x : HV) (lo hi : Option HV) (K : HV → Option β) : Option β :=
  match P.underlying t, x with
  | some .string, .str s => sliceN s.size lo hi fun l h => K (.str (s.extract l h))
  | some (.slice el), .lst sz n f | some (.slice el), .own _ sz n f => brs (szT P el == some sz) (sliceN n lo hi fun l h => K (.lst sz (h - l) (cutF (h - l) l f (zOf P t)))) none
  | some (.slice el), .nils => match szT P el with
    | some _ => sliceN 0 lo hi fun _ _ => K .nils
    | none => none
  | _, _ => none

def appF (n : Nat) (f g : Nat → List HV) : Nat → List HV := fun i => cond (decide (i < n)) (f i) (g (i - n))
def demote (t : Nat) : HV → HV
  | .own t' sz n f => cond (t' == t) (.lst sz n f) (.own t' sz n f)
  | h => h

/-- A written list's elements. -/
def nthC (cs : List (List HV)) (z : List HV) (i : Nat) : List HV := cs.getD i z
def listOf (sz : Nat) (z : List HV) (x : HV) (K : Nat → (Nat → List HV) → Option β) : Option β :=
  match x with
  | .lst s n f | .own _ s n f => brs (s == sz) (K n f) none
  | .nils => K 0 (fun _ => z)
  | _ => none

def evAppend (P : Program) (q : Bool) (t : TypeId) (s x : HV) (e : List HV) (st : List Slot) (K : HV → List HV → List Slot → Option β) : Option β :=
  brs q none (match elemT P t with
  | some (el, sz, z, by_) => listOf sz z x fun m g => match s with
    | .own t sz' n f => match st[t]? with
      | some (.tok el') => brs (el' == el && sz' == sz) (br (decide ((n + m) * by_ ≤ 140737488355328)) (mapK (demote t) e fun e => K (.own t sz (n + m) (appF n f g)) e st) none) none
      | _ => none
    | .nils => br (decide (m * by_ ≤ 140737488355328)) (K (.own st.length sz m g) e (st ++ [.tok el])) none
    | _ => none
  | none => none)

def okFn (P : Program) (f : Nat) : Bool := match P.funcs[f]? with
  | some fn => fn.body.isSome && !(fn.name == "runtime.NumGoroutine")
  | none => false

def fillH (place : Nat → Option (Nat × Nat)) (cs : List HV) : List (Nat × HV) → Option (List HV)
  | [] => some cs
  | (i, v) :: rest => match place i with
    | none => none
    | some (off, size) => if (cellsH v).length = size ∧ off + size ≤ cs.length then fillH place (splice cs off (cellsH v)) rest else none

/-- Where a field's cells stand. -/
def placeT (P : Program) (fs : Array Field) (i : Nat) : Option (Nat × Nat) := match fs[i]? with
  | some f => match szT P f.type with
    | some n => some (f.offset, n)
    | none => none
  | none => none

/-- What a call answered, by its type. -/
def typed (P : Program) (t : TypeId) (x : Option HV) (K : HV → Option β) : Option β :=
  match P.underlying t with
  | some .bool => bndB x fun b => K (.bool b)
  | some (.int k) => bndI k x fun n => K (.int k n)
  | some .string => bndS x fun s => K (.str s)
  | some (.slice el) => match szT P el with
    | some sz => bndL sz x fun n f => K (.lst sz n f)
    | none => none
  | _ => bnd x K

def stored (P : Program) (t : TypeId) (v a : HV) (st : List Slot) (K : List Slot → Option β) : Option β := match a, szT P t with
  | .var r off, some n => match st[r]? with
    | some (.var true cs) => if (cellsH v).length = n ∧ off + n ≤ cs.length then K (st.set r (.var true (splice cs off (cellsH v)))) else none
    | _ => none
  | .elt r sz' i off, some n => match st[r]? with
    | some (.row true sz m f) => if sz = sz' ∧ i < m ∧ (cellsH v).length = n ∧ off + n ≤ sz then K (st.set r (.row true sz m (fun j => cond (decide (j = i)) (splice (f i) off (cellsH v)) (f j)))) else none
    | _ => none
  | _, _ => none

def builtS (P : Program) (q : Bool) (len el sz : Nat) (z : List HV) (is : List Nat) (vs : List HV) (e : List HV) (st : List Slot) (K : HV → List HV → List Slot → Option β) : Option β :=
  brs (decide (len * sz ≤ 16777216) && decide (is = List.range len) && vs.all (fun v => (cellsH v).length == sz)) (
    brs q (K (.lst sz len (nthC (vs.map cellsH) z)) e st) (K (.own st.length sz len (nthC (vs.map cellsH) z)) e (st ++ [.tok el]))) none

structure Cfg where
  P : Program
  call : Nat → List HV → Option HV

def evOp (C : Cfg) (q : Bool) (o : Oper) (e : List HV) (st : List Slot) (K : HV → List HV → List Slot → Option β) : Option β :=
  match o.op with
  | .move x => evK e x fun v => K v e st
  | .assign x => evK e x fun v => brs (!q && isNils v) (match elemT C.P o.type with
      | some (el, sz, z, _) => K (.own st.length sz 0 (fun _ => z)) e (st ++ [.tok el])
      | none => K .nils e st) (K v e st)
  | .pick c a b => match ev e c with
    | .bool t => evK e a fun a => evK e b fun b => br t (K a e st) (K b e st)
    | _ => none
  | .alloc t => brs q none (match zeroT C.P t with
    | some z => K (.var st.length 0) e (st ++ [.var true z])
    | none => none)
  | .box _ x => evK e x fun v => toC q st v fun v st => K (.ptr (cellsH v) 0) e st
  | .build t parts => match zeroT C.P t, C.P.underlying t with
    | some z, some (.struct fs) => brs (fs.toList.all fun f => (szT C.P f.type).isSome) (evKs e (parts.toList.map (·.2)) fun vs => toCs q st vs fun vs st =>
        match fillH (placeT C.P fs) z ((parts.toList.map (·.1)).zip (nzs C.P (parts.toList.map fun p => fieldT fs p.1) vs)) with
        | some cs => K (.agg cs) e st
        | none => none) none
    | _, _ => none
  | .buildSlice t len parts => match elemT C.P t with
    | some (el, sz, z, _) => evKs e (parts.toList.map (·.2)) fun vs => toCs q st vs fun vs st => builtS C.P q len el sz z (parts.toList.map (·.1)) (nzs C.P (parts.toList.map fun _ => el) vs) e st K
    | none => none
  | .load t a => match ev e a with
    | .ptr cs off => loadC C.P t cs off fun v => K v e st
    | .var r off => match st[r]? with
      | some (.var _ cs) => loadC C.P t cs off fun v => K v e st
      | _ => none
    | .elt r sz i off => match st[r]? with
      | some (.row _ sz' n f) => br (sz == sz' && decide (i < n)) (loadC C.P t (f i) off fun v => K v e st) none
      | _ => none
    | _ => none
  | .store t a x => brs q none (evK e x fun v => toC false st v fun v st => stored C.P t (nz C.P t v) (ev e a) st fun st => K .undef e st)
  | .nilCheck x => match ev e x with
    | .ptr cs off => K (.ptr cs off) e st
    | .var r off => K (.var r off) e st
    | .elt r sz i off => K (.elt r sz i off) e st
    | _ => none
  | .binOp op t x y _ => evBin C.P op t (ev e x) (ev e y) fun v => K v e st
  | .unOp op _ x => evUn op (ev e x) fun v => K v e st
  | .convert src dst x => match C.P.underlying src, C.P.underlying dst, ev e x with
    | some _, some (.int k), .int _ n => K (.int k (k.wrap n)) e st
    | _, _, _ => none
  | .makeFunc fn first captured => match fn, first.toList with
    | .func f, [] => evKs e captured.toList fun vs => toCs q st vs fun vs st => brs (vs.all isCell) (K (.fn f vs) e st) none
    | _, _ => none
  | .makeSlice t l c => brs q none (match elemT C.P t, ev e l, ev e c with
    | some (_, sz, z, by_), .int .i64 a, .int .i64 b => br (decide (a = b)) (br (decide (0 ≤ a ∧ a * by_ ≤ 140737488355328)) (K (.arr st.length sz 0 a.toNat) e (st ++ [.row true sz a.toNat (fun _ => z)])) none) none
    | _, _, _ => none)
  | .slice t x lo hi mx => match mx with
    | none => evSlice C.P t (ev e x) (lo.map (ev e)) (hi.map (ev e)) fun v => K v e st
    | some _ => none
  | .fieldAddr t x i => evField C.P t i (ev e x) fun v => K v e st
  | .indexAddr t x ix => match elemT C.P t, ev e ix with
    | some (_, sz, _, _), .int _ i => evIdx (ev e x) i sz fun v => K v e st
    | _, _ => none
  | .index t x ix => match C.P.underlying t, ev e x, ev e ix with
    | some .string, .str s, .int _ i => br (decide (0 ≤ i ∧ i < s.size)) (K (.int .u8 (byteAt s i.toNat)) e st) none
    | _, _, _ => none
  | .extract t i => match ev e t with
    | .tup vs => match vs[i]? with
      | some v => K v e st
      | none => none
    | _ => none
  | .call c => match c.callee with
    | .builtin .len => match c.args.toList, c.argTypes.toList with
      | [x], [t] => match C.P.underlying t, ev e x with
        | some .string, .str s => K (.int .i64 s.size) e st
        | some (.slice _), .lst _ n _ => K (.int .i64 n) e st
        | some (.slice _), .own _ _ n _ => K (.int .i64 n) e st
        | some (.slice _), .arr _ _ _ n => K (.int .i64 n) e st
        | some (.slice _), .nils => K (.int .i64 0) e st
        | _, _ => none
      | _, _ => none
    | .builtin .append => match c.args.toList, c.argTypes.toList with
      | [s, x], [t, t'] => brs (t == t') (evAppend C.P q t (ev e s) (ev e x) e st K) none
      | _, _ => none
    | .builtin .max => match c.args.toList.map (ev e) with
      | [.int k a, .int k' b] => if k = k' then K (.int k (max a b)) e st else none
      | _ => none
    | .builtin .min => match c.args.toList.map (ev e) with
      | [.int k a, .int k' b] => if k = k' then K (.int k (min a b)) e st else none
      | _ => none
    | .builtin _ => none
    | .invoke _ _ => none
    | .value f => match ev e f with
      | .fn g caps => br (okFn C.P g) (evKs e c.args.toList fun vs => toCs q st vs fun vs st => typed C.P o.type (C.call g (nzs C.P (paramsT C.P g) vs ++ caps)) fun r => K r e st) none
      | _ => none
  | _ => none

/-- Operations in the text's order; a guard's answer is written down where it is told. -/
def evOps (C : Cfg) (q : Bool) (all : Array Oper) : List Oper → List HV → List Slot → (List HV → List Slot → Option β) → Option β
  | [], e, st, K => K e st
  | o :: os, e, st, K => match o.guard with
    | none => evOp C q o e st fun v e st => put e o.dst v fun e => evOps C q all os e st K
    | some (j, want) => match all[j]? with
      | some oj => match oj.dst with
        | some d => match e[d]? with
          | some (.bool b) => br b
              (setK e d (.bool true) fun e => brs want (evOp C q o e st fun v e st => put e o.dst v fun e => evOps C q all os e st K) (put e o.dst (.tup []) fun e => evOps C q all os e st K))
              (setK e d (.bool false) fun e => brs want (put e o.dst (.tup []) fun e => evOps C q all os e st K) (evOp C q o e st fun v e st => put e o.dst v fun e => evOps C q all os e st K))
          | some (.tup []) => put e o.dst (.tup []) fun e => evOps C q all os e st K
          | _ => none
        | none => none
      | none => none

def drop (n : Nat) : HV → HV
  | .own t sz k f => cond (decide (t < n)) (.own t sz k f) (.lst sz k f)
  | .arr r sz lo k => cond (decide (r < n)) (.arr r sz lo k) .undef
  | .var r off => cond (decide (r < n)) (.var r off) .undef
  | .elt r sz i off => cond (decide (r < n)) (.elt r sz i off) .undef
  | h => h

abbrev Out := Ex × List HV × List Slot

def iter (f : List HV → List Slot → Option Out) (n0 : Nat) : Nat → List HV → List Slot → Option Out
  | 0, _, _ => none
  | k + 1, e, st => bnd3 (f e st) fun x e st => match x with
    | .normal => mapK (drop n0) e fun e => iter f n0 k e (st.take n0)
    | x => some (x, e, st)

def evC (C : Cfg) (k : Nat) : Code → (β : Type) → List HV → List Slot → (Ex → List HV → List Slot → Option β) → Option β
  | .skip, _, e, st, K => K .normal e st
  | .region _ ops draw, _, e, st, K => evOps C draw ops ops.toList e st fun e st => K .normal e st
  | .seq a b, β, e, st, K => evC C k a β e st fun x e st => match x with
    | .normal => evC C k b β e st K
    | x => K x e st
  | .cond c a b, β, e, st, K => match ev e c with
    | .bool t => br t (evC C k a β e st K) (evC C k b β e st K)
    | _ => none
  | .block id c, β, e, st, K => evC C k c β e st fun x e st => match x with
    | .exit i => brs (i == id) (K .normal e st) (K (.exit i) e st)
    | x => K x e st
  | .loop c, _, e, st, K => bnd3 (iter (fun e st => evC C k c Out e st fun x e st => some (x, e, st)) st.length k e st) K
  | .exit id, _, e, st, K => K (.exit id) e st
  | .ret, _, e, st, K => K .ret e st
  | _, _, _, _, _ => none

def resH (P : Program) (r : ResultVar) (e : List HV) (st : List Slot) (K : HV → List Slot → Option HV) : Option HV :=
  match r with
  | .tmp t => toC false st (e.getD t .undef) K
  | .cell a t => match e.getD a .undef with
    | .ptr cs off => loadC P t cs off fun v => K v st
    | .var r off => match st[r]? with
      | some (.var _ cs) => loadC P t cs off fun v => K v st
      | _ => none
    | _ => none
def ressH (P : Program) : List ResultVar → List HV → List Slot → (List HV → Option HV) → Option HV
  | [], _, _, K => K []
  | r :: rs, e, st, K => resH P r e st fun v st => ressH P rs e st fun vs => K (v :: vs)
def retH (P : Program) (rs : List ResultVar) (e : List HV) (st : List Slot) : Option HV :=
  ressH P rs e st fun vs => match vs with
    | [v] => some v
    | vs => some (.tup vs)

abbrev Ext := Nat → Option ((Nat → List HV → Option HV) → List HV → Option HV)

def body (C : Cfg) (k : Nat) (fn : Func) (args : List HV) : Option HV := match fn.body with
  | some c => evC C k c HV (args ++ List.replicate (fn.ntmps - args.length) .undef) [] fun x e st => match x with
    | .exit _ => none
    | _ => retH C.P fn.results.toList e st
  | none => none

def callP (P : Program) (ext : Ext) (fs : List Nat) : Nat → Nat → List HV → Option HV
  | 0, _, _ => none
  | k + 1, f, args => match ext f with
    | some g => g (callP P ext fs k) args
    | none => match fs.elem f with
      | true => match P.funcs[f]? with
        | some fn => body ⟨P, callP P ext fs k⟩ k fn args
        | none => none
      | false => none

/-- A function's code, and its parts. -/
def fnCode (P : Program) (f : Nat) : Code := match P.funcs[f]? with
  | some fn => fn.body.getD .skip
  | none => .skip
def subC : Code → List Nat → Code
  | c, [] => c
  | .seq a _, 0 :: p => subC a p
  | .seq _ b, 1 :: p => subC b p
  | .cond _ a _, 0 :: p => subC a p
  | .cond _ _ b, 1 :: p => subC b p
  | .block _ c, 0 :: p => subC c p
  | .loop c, 0 :: p => subC c p
  | c, _ => c

/-- The regions whose order is drawn may be taken in the text's order. -/
def lexC : Code → Bool
  | .region _ ops true => Region.lexFrom .any ops ops.size 0 (Array.replicate ops.size false)
  | .seq a b => lexC a && lexC b
  | .cond _ a b => lexC a && lexC b
  | .block _ c => lexC c
  | .loop c => lexC c
  | _ => true
def lexF (P : Program) (f : Nat) : Bool := match P.funcs[f]? with
  | some fn => match fn.body with
    | some c => lexC c
    | none => false
  | none => false

end Go.Eng
end

section
namespace Go.Eng
open Go.RowKit

/-- Cells at an address, from a place on, settled. -/
def AtS (S : Nat → Nat → Prop) (w : World) (A : Option Addr) (o : Nat) (cells : List Value) : Prop :=
  ∀ j u, cells[j]? = some u → ∃ ad, A = some ad ∧ w.cell? (ad.add (o + j)) = some u ∧ S ad.block (ad.off + (o + j))

mutual
inductive RepC (S : Nat → Nat → Prop) (w : World) : HV → Value → Prop
  | int (k n) : RepC S w (.int k n) (.int k n)
  | bool (b) : RepC S w (.bool b) (.bool b)
  | str (s) : RepC S w (.str s) (.string s)
  | nils : RepC S w .nils (.slice none 0 0)
  | nilp : RepC S w .nilp (.pointer none)
  | nilf : RepC S w .nilf .nilFunc
  | lst (sz n f A c) (cells : Nat → List Value) (h : ∀ i, i < n → RepCs S w (f i) (cells i)) (hl : ∀ i, i < n → (cells i).length = sz)
      (ha : ∀ i, i < n → AtS S w A (i * sz) (cells i)) (hc : n ≤ c) : RepC S w (.lst sz n f) (.slice A n c)
  | ptr (cs off ad cells) (h : RepCs S w cs cells) (ha : AtS S w (some ad) 0 cells) : RepC S w (.ptr cs off) (.pointer (some (ad.add off)))
  | fn (f caps vs) (h : RepCs S w caps vs) : RepC S w (.fn f caps) (.func (.func f) #[] vs.toArray)
  | agg (cs cells) (h : RepCs S w cs cells) : RepC S w (.agg cs) (.agg cells.toArray)
  | any (v : Value) (h : v.oneCell' = true) : RepC S w .undef v
inductive RepCs (S : Nat → Nat → Prop) (w : World) : List HV → List Value → Prop
  | nil : RepCs S w [] []
  | cons (x v xs vs) (h : RepC S w x v) (h1 : v.oneCell' = true) (hs : RepCs S w xs vs) : RepCs S w (x :: xs) (v :: vs)
end

/-- What grows: the settled cells, each as it was. -/
structure Gro (S : Nat → Nat → Prop) (w : World) (S' : Nat → Nat → Prop) (w' : World) : Prop where
  sub : ∀ b o, S b o → S' b o
  cell : ∀ b o, S b o → w'.cell? ⟨b, o, none⟩ = w.cell? ⟨b, o, none⟩
theorem Gro.refl (S w) : Gro S w S w := ⟨fun _ _ h => h, fun _ _ _ => rfl⟩
theorem Gro.trans {S w S1 w1 S2 w2} (h : Gro S w S1 w1) (k : Gro S1 w1 S2 w2) : Gro S w S2 w2 :=
  ⟨fun b o x => k.sub b o (h.sub b o x), fun b o x => (k.cell b o (h.sub b o x)).trans (h.cell b o x)⟩

theorem cell_add_spot (w : World) (ad : Addr) (n : Nat) (v : Value) (h : w.cell? (ad.add n) = some v) : ad.add n = ⟨ad.block, ad.off + n, none⟩ := by
  unfold Addr.add at h ⊢
  split
  · rename_i h0
    subst h0
    simp only [if_true] at h
    cases ad with
    | mk b o sp =>
      cases sp with
      | none => rfl
      | some s => simp [World.cell?] at h; split at h <;> simp_all
  · rfl

theorem AtS.mono {S w S' w' A o cells} (g : Gro S w S' w') (h : AtS S w A o cells) : AtS S' w' A o cells := by
  intro j u hj
  obtain ⟨ad, e, hc, hs⟩ := h j u hj
  refine ⟨ad, e, ?_, g.sub _ _ hs⟩
  have := cell_add_spot w ad (o + j) u hc
  rw [this] at hc ⊢
  rw [g.cell _ _ hs]
  exact hc

mutual
theorem RepC.mono {S w S' w'} (g : Gro S w S' w') : ∀ {h : HV} {v : Value}, RepC S w h v → RepC S' w' h v
  | _, _, .int k n => .int k n
  | _, _, .bool b => .bool b
  | _, _, .str s => .str s
  | _, _, .nils => .nils
  | _, _, .nilp => .nilp
  | _, _, .nilf => .nilf
  | _, _, .lst sz n f A c cells h hl ha hc => .lst sz n f A c cells (fun i hi => RepCs.mono g (h i hi)) hl (fun i hi => (ha i hi).mono g) hc
  | _, _, .ptr cs off ad cells h ha => .ptr cs off ad cells (RepCs.mono g h) (ha.mono g)
  | _, _, .fn f caps vs h => .fn f caps vs (RepCs.mono g h)
  | _, _, .agg cs cells h => .agg cs cells (RepCs.mono g h)
  | _, _, .any v h => .any v h
theorem RepCs.mono {S w S' w'} (g : Gro S w S' w') : ∀ {hs : List HV} {vs : List Value}, RepCs S w hs vs → RepCs S' w' hs vs
  | _, _, .nil => .nil
  | _, _, .cons x v xs vs h h1 hs => .cons x v xs vs (RepC.mono g h) h1 (RepCs.mono g hs)
end

section
variable {S : Nat → Nat → Prop} {w : World}
theorem RepCs.length {hs vs} (h : RepCs S w hs vs) : vs.length = hs.length := by
  induction hs generalizing vs with
  | nil => cases h; rfl
  | cons x xs ih => cases h with | cons _ _ _ _ _ _ hs => simp [ih hs]
theorem RepCs.at {hs vs} (h : RepCs S w hs vs) : ∀ {i : Nat} {x : HV}, hs[i]? = some x → ∃ v, vs[i]? = some v ∧ RepC S w x v ∧ v.oneCell' = true := by
  induction hs generalizing vs with
  | nil => intro i x hi; simp at hi
  | cons y ys ih =>
    intro i x hi
    cases h with
    | cons _ v _ vs h h1 hs =>
      cases i with
      | zero => simp at hi; subst hi; exact ⟨v, rfl, h, h1⟩
      | succ i => simp at hi; obtain ⟨u, hu, r⟩ := ih hs hi; exact ⟨u, by simpa using hu, r⟩
theorem RepCs.one {hs vs} (h : RepCs S w hs vs) : ∀ v ∈ vs, v.oneCell' = true := by
  induction hs generalizing vs with
  | nil => cases h; intro v hv; cases hv
  | cons y ys ih =>
    cases h with
    | cons _ v _ vs h h1 hs =>
      intro u hu
      rcases List.mem_cons.1 hu with rfl | hu
      · exact h1
      · exact ih hs u hu
theorem RepCs.append {hs vs hs' vs'} (h : RepCs S w hs vs) (h' : RepCs S w hs' vs') : RepCs S w (hs ++ hs') (vs ++ vs') := by
  induction hs generalizing vs with
  | nil => cases h; exact h'
  | cons y ys ih => cases h with | cons _ v _ vs h h1 hs => exact .cons _ _ _ _ h h1 (ih hs)
theorem RepCs.take {hs vs} (h : RepCs S w hs vs) (n : Nat) : RepCs S w (hs.take n) (vs.take n) := by
  induction hs generalizing vs n with
  | nil => cases h; simpa using RepCs.nil
  | cons y ys ih =>
    cases h with
    | cons _ v _ vs h h1 hs =>
      cases n with
      | zero => exact .nil
      | succ n => exact .cons _ _ _ _ h h1 (ih hs n)
theorem RepCs.drop {hs vs} (h : RepCs S w hs vs) (n : Nat) : RepCs S w (hs.drop n) (vs.drop n) := by
  induction hs generalizing vs n with
  | nil => cases h; simpa using RepCs.nil
  | cons y ys ih =>
    cases h with
    | cons _ v _ vs h h1 hs =>
      cases n with
      | zero => exact .cons _ _ _ _ h h1 hs
      | succ n => exact ih hs n
theorem RepCs.single {x v} (h : RepC S w x v) (h1 : v.oneCell' = true) : RepCs S w [x] [v] := .cons _ _ _ _ h h1 .nil
/-- A value's cells. -/
theorem RepC.cells {x v} (h : RepC S w x v) : RepCs S w (cellsH x) v.cells.toList := by
  cases h <;> first | exact RepCs.single (by constructor <;> assumption) rfl | skip
  case agg cs cells h => simpa [cellsH, Value.cells] using h
  case any h => cases v <;> first | (cases h; done) | exact RepCs.single (.any _ h) h
end

structure Gh where
  S : Nat → Nat → Prop
  R : Nat → Nat → Prop
  T : Nat → Value → Prop

inductive RepTs (S : Nat → Nat → Prop) (w : World) : List HV → List Value → Prop
  | nil : RepTs S w [] []
  | cons (x v xs vs) (h : RepC S w x v) (hs : RepTs S w xs vs) : RepTs S w (x :: xs) (v :: vs)
theorem RepTs.mono {S w S' w'} (g : Gro S w S' w') {hs vs} (h : RepTs S w hs vs) : RepTs S' w' hs vs := by
  induction h with
  | nil => exact .nil
  | cons x v xs vs h _ ih => exact .cons _ _ _ _ (h.mono g) ih
theorem RepTs.length {S w hs vs} (h : RepTs S w hs vs) : vs.length = hs.length := by induction h <;> simp_all
theorem RepTs.at {S w hs vs} (h : RepTs S w hs vs) : ∀ {i : Nat} {x : HV}, hs[i]? = some x → ∃ v, vs[i]? = some v ∧ RepC S w x v := by
  induction h with
  | nil => intro i x hi; simp at hi
  | cons x v xs vs h _ ih =>
    intro i y hi
    cases i with
    | zero => simp at hi; subst hi; exact ⟨v, rfl, h⟩
    | succ i => simp at hi; simpa using ih hi

/-- What a slot's plain value stands for. -/
def RepV (G : Gh) (w : World) : HV → Value → Prop
  | .undef, _ => True
  | .own t sz n f, v => G.T t v ∧ RepC G.S w (.lst sz n f) v
  | .arr r sz lo n, v => ∃ g A c, G.R r g ∧ v = .slice A n c ∧ n ≤ c ∧ (0 < n → A = some ⟨g, lo * sz, none⟩)
  | .var r off, v => ∃ g, G.R r g ∧ v = .pointer (some ⟨g, off, none⟩)
  | .elt r sz i off, v => ∃ g, G.R r g ∧ v = .pointer (some ⟨g, i * sz + off, none⟩)
  | .tup hs, v => ∃ us : List Value, v = .tuple us.toArray ∧ RepTs G.S w hs us
  | .int k n, v => RepC G.S w (.int k n) v
  | .bool b, v => RepC G.S w (.bool b) v
  | .str s, v => RepC G.S w (.str s) v
  | .lst sz n f, v => RepC G.S w (.lst sz n f) v
  | .nils, v => RepC G.S w .nils v
  | .ptr cs off, v => RepC G.S w (.ptr cs off) v
  | .nilp, v => RepC G.S w .nilp v
  | .fn f cs, v => RepC G.S w (.fn f cs) v
  | .nilf, v => RepC G.S w .nilf v
  | .agg cs, v => RepC G.S w (.agg cs) v
  | .mp _, _ => False
  | .ow _, _ => False
  | .nl _ _, _ => False

theorem RepV.of {G : Gh} {w h v} (k : RepC G.S w h v) : RepV G w h v := by cases k <;> (constructor <;> assumption)

theorem RepV.mono {G G' : Gh} {w w' : World} (g : Gro G.S w G'.S w') (hR : ∀ r b, G.R r b → G'.R r b) (hT : ∀ t v, G.T t v → G'.T t v) {h v} (k : RepV G w h v) : RepV G' w' h v := by
  cases h with
  | undef => trivial
  | own t sz n f => exact ⟨hT _ _ k.1, k.2.mono g⟩
  | arr r sz lo n => obtain ⟨b, A, c, h1, h2⟩ := k; exact ⟨b, A, c, hR _ _ h1, h2⟩
  | var r off => obtain ⟨b, h1, h2⟩ := k; exact ⟨b, hR _ _ h1, h2⟩
  | elt r sz i off => obtain ⟨b, h1, h2⟩ := k; exact ⟨b, hR _ _ h1, h2⟩
  | tup hs => obtain ⟨us, h1, h2⟩ := k; exact ⟨us, h1, h2.mono g⟩
  | mp r => exact k.elim
  | ow r => exact k.elim
  | nl sz z => exact k.elim
  | _ => exact RepC.mono g k

/-- The slots of a call stand for the call's own. -/
def RepE (G : Gh) (w : World) (e : List HV) (a : Act) : Prop :=
  e.length = a.tmps.size ∧ ∀ i, RepV G w (e.getD i .undef) (a.tmps.getD i Go.undef)

theorem RepE.mono {G G' : Gh} {w w' : World} (g : Gro G.S w G'.S w') (hR : ∀ r b, G.R r b → G'.R r b) (hT : ∀ t v, G.T t v → G'.T t v) {e a} (k : RepE G w e a) : RepE G' w' e a :=
  ⟨k.1, fun i => (k.2 i).mono g hR hT⟩
theorem RepE.map {G G' : Gh} {w w' : World} {e a} (tr : HV → HV) (htr : ∀ h v, RepV G w h v → RepV G' w' (tr h) v) (k : RepE G w e a) : RepE G' w' (e.map tr) a := by
  refine ⟨by simpa using k.1, fun i => ?_⟩
  have := htr _ _ (k.2 i)
  rw [List.getD_eq_getElem?_getD, List.getElem?_map]
  rw [List.getD_eq_getElem?_getD] at this
  cases h : e[i]? with
  | none => simp [RepV]
  | some x => simpa [h] using this
theorem RepE.put {G : Gh} {w : World} {e : List HV} {a : Act} (k : RepE G w e a) (d : Option Nat) {h v} (hv : RepV G w h v) : RepE G w (match d with | none => e | some d => e.set d h) (a.put d v) := by
  cases d with
  | none => exact k
  | some d =>
    refine ⟨by simpa [Act.put] using k.1, fun i => ?_⟩
    simp only [Act.put]
    rw [List.getD_eq_getElem?_getD, List.getElem?_set]
    have hg : (a.tmps.setIfInBounds d v).getD i Go.undef = if d = i ∧ d < a.tmps.size then v else a.tmps.getD i Go.undef := by
      simp only [Array.getD_eq_getD_getElem?, Array.getElem?_setIfInBounds]
      by_cases hdi : d = i
      · subst hdi
        by_cases hlt : d < a.tmps.size
        · simp [hlt]
        · simp [hlt]
      · simp [hdi]
    rw [hg]
    by_cases hdi : d = i
    · subst hdi
      by_cases hlt : d < a.tmps.size
      · simp [hlt, k.1, hv]
      · simp [hlt, k.1, RepV]
    · have := k.2 i
      rw [List.getD_eq_getElem?_getD] at this
      simpa [hdi] using this

theorem getK_eq {β : Type} (e : List HV) (n : Nat) (K : HV → Option β) : getK e n K = K (e.getD n .undef) := by
  induction e generalizing n K with
  | nil => simp [getK]
  | cons h t ih => cases n with
    | zero => rfl
    | succ n => simp [getK, ih]
theorem evK_eq {β : Type} (e : List HV) (x : Operand) (K : HV → Option β) : evK e x K = K (ev e x) := by
  cases x with
  | tmp t => exact getK_eq _ _ _
  | global g => rfl
  | func f => rfl
  | const v =>
    simp only [evK, ev]
    split <;> rfl
theorem evKs_eq {β : Type} (e : List HV) (xs : List Operand) (K : List HV → Option β) : evKs e xs K = K (xs.map (ev e)) := by
  induction xs generalizing K with
  | nil => rfl
  | cons x xs ih => simp [evKs, evK_eq, ih]
theorem setK_eq {β : Type} (e : List HV) (d : Nat) (v : HV) (K : List HV → Option β) : setK e d v K = K (e.set d v) := by
  induction e generalizing d K with
  | nil => rfl
  | cons h t ih => cases d with
    | zero => rfl
    | succ d => simp [setK, ih]
theorem put_eq {β : Type} (e : List HV) (d : Option Nat) (v : HV) (K : List HV → Option β) : put e d v K = K (match d with | none => e | some d => e.set d v) := by
  cases d <;> simp [put, setK_eq]
theorem mapK_eq {β : Type} (f : HV → HV) (e : List HV) (K : List HV → Option β) : mapK f e K = K (e.map f) := by
  induction e generalizing K with
  | nil => rfl
  | cons h t ih => simp [mapK, ih]

theorem RepC.cst {S w} (v : Value) : cst v = .undef ∨ RepC S w (cst v) v := by
  unfold Eng.cst
  split <;> first | exact .inl rfl | (right; constructor)
theorem RepE.ev {G : Gh} {w : World} {e : List HV} {a : Act} (k : RepE G w e a) (x : Operand) : RepV G w (ev e x) (a.eval x) := by
  cases x with
  | tmp t => exact k.2 t
  | const v => rcases RepC.cst (S := G.S) (w := w) v with h | h
               · simp [Eng.ev, h, RepV]
               · exact RepV.of h
  | global g => simp [Eng.ev, RepV]
  | func f => exact RepV.of (.fn f [] [] .nil)
end Go.Eng
end

section
namespace Go.Eng
open Go.RowKit

/-- What a call's own slot stands for. -/
def RepS (P : Program) (base : Nat) (G : Gh) (w : World) (id : Nat) : Slot → Prop
  | .var m cs => ∃ g t cells, G.R id g ∧ base ≤ g ∧ w.heap[g]? = some (.cells cells t (0, 0)) ∧ RepCs G.S w cs cells.toList ∧
      (m = true → ∀ o, ¬ G.S g o) ∧ (m = false → ∀ o, o < cells.size → G.S g o)
  | .row m sz n f => ∃ g t cells, G.R id g ∧ base ≤ g ∧ w.heap[g]? = some (.cells cells t (0, 0)) ∧ cells.size = n * sz ∧
      (∀ i, i < n → RepCs G.S w (f i) ((cells.toList.drop (i * sz)).take sz)) ∧
      (m = true → ∀ o, ¬ G.S g o) ∧ (m = false → ∀ o, o < cells.size → G.S g o)
  | .tok e => ∃ v n size xs, G.T id v ∧ w.ownsRow base e size v n xs ∧ (P.info? e).map (·.size) = some size ∧
      (∀ g, v.ownBlock = some g → ∀ o, G.S g o → o < n * size)

structure Inv (P : Program) (w0 : World) (S0 : Nat → Nat → Prop) (G : Gh) (st : List Slot) (w : World) : Prop where
  below : Below w0.heap.size w0 w
  slots : ∀ (id : Nat) s, st[id]? = some s → RepS P w0.heap.size G w id s
  rlt : ∀ r g, G.R r g → r < st.length
  tlt : ∀ t v, G.T t v → t < st.length
  rfun : ∀ r g g', G.R r g → G.R r g' → g = g'
  tfun : ∀ t v v', G.T t v → G.T t v' → v = v'
  rinj : ∀ r r' g, G.R r g → G.R r' g → r = r'
  tinj : ∀ t t' v v' g, G.T t v → G.T t' v' → v.ownBlock = some g → v'.ownBlock = some g → t = t'
  rt : ∀ r t v g, G.R r g → G.T t v → v.ownBlock = some g → False
  rnew : ∀ r g, G.R r g → w0.heap.size ≤ g ∧ g < w.heap.size
  tnew : ∀ t v g, G.T t v → v.ownBlock = some g → w0.heap.size ≤ g ∧ g < w.heap.size
  s0 : ∀ b o, S0 b o → G.S b o
  snew : ∀ b o, G.S b o → S0 b o ∨ w0.heap.size ≤ b
  slt : ∀ b o, G.S b o → b < w.heap.size

theorem Inv.start (P : Program) (w : World) (S : Nat → Nat → Prop) (hS : ∀ b o, S b o → b < w.heap.size) : Inv P w S ⟨S, fun _ _ => False, fun _ _ => False⟩ [] w where
  below := Below.refl _ _
  slots := fun id s h => by simp at h
  rlt := fun _ _ h => h.elim
  tlt := fun _ _ h => h.elim
  rfun := fun _ _ _ h => h.elim
  tfun := fun _ _ _ h => h.elim
  rinj := fun _ _ _ h => h.elim
  tinj := fun _ _ _ _ _ h => h.elim
  rt := fun _ _ _ _ h => h.elim
  rnew := fun _ _ h => h.elim
  tnew := fun _ _ _ h => h.elim
  s0 := fun _ _ h => h
  snew := fun _ _ h => .inl h
  slt := hS

theorem cell_of_block {w w' : World} {b : Nat} (h : w'.heap[b]? = w.heap[b]?) (o : Nat) : w'.cell? ⟨b, o, none⟩ = w.cell? ⟨b, o, none⟩ :=
  World.cell?_of_block (a := ⟨b, o, none⟩) h

section
variable {P : Program} {w0 : World} {S0 : Nat → Nat → Prop} {G : Gh} {st : List Slot} {w : World}

/-- The world has grown, and the settled cells: the slots stand for what they did. -/
theorem Inv.grow (h : Inv P w0 S0 G st w) {w' : World} (hb : Below w.heap.size w w') {S' : Nat → Nat → Prop} (h1 : ∀ b o, G.S b o → S' b o) (h2 : ∀ b o, S' b o → G.S b o ∨ w.heap.size ≤ b) (h3 : ∀ b o, S' b o → b < w'.heap.size) :
    Inv P w0 S0 { G with S := S' } st w' ∧ Gro G.S w S' w' := by
  have g : Gro G.S w S' w' := ⟨h1, fun b o hs => cell_of_block (hb.block b (h.slt b o hs)) o⟩
  have hsz : w0.heap.size ≤ w.heap.size := h.below.size
  refine ⟨{ below := h.below.trans (hb.mono hsz), slots := fun id s hs => ?_, rlt := h.rlt, tlt := h.tlt, rfun := h.rfun, tfun := h.tfun, rinj := h.rinj, tinj := h.tinj, rt := h.rt, rnew := fun r b hr => ?_, tnew := fun t v b ht hv => ?_, s0 := fun b o hs => h1 _ _ (h.s0 _ _ hs), snew := fun b o hs => ?_, slt := h3 }, g⟩
  · have hold := h.slots id s hs
    have nos : ∀ b, b < w.heap.size → ∀ o, S' b o → G.S b o := fun b hb' o hs' => by rcases h2 b o hs' with x | x; exact x; omega
    cases s with
    | var m cs =>
      obtain ⟨b, t, cells, hr, hbb, hh, hc, hm, hm'⟩ := hold
      have hlt := (h.rnew _ _ hr).2
      exact ⟨b, t, cells, hr, hbb, (hb.block b hlt).trans hh, hc.mono g, fun e o hs' => hm e o (nos b hlt o hs'), fun e o ho => h1 _ _ (hm' e o ho)⟩
    | row m sz n f =>
      obtain ⟨b, t, cells, hr, hbb, hh, hcs, hc, hm, hm'⟩ := hold
      have hlt := (h.rnew _ _ hr).2
      exact ⟨b, t, cells, hr, hbb, (hb.block b hlt).trans hh, hcs, fun i hi => (hc i hi).mono g, fun e o hs' => hm e o (nos b hlt o hs'), fun e o ho => h1 _ _ (hm' e o ho)⟩
    | tok e =>
      obtain ⟨v, n, size, xs, ht, ho, hi, hf⟩ := hold
      refine ⟨v, n, size, xs, ht, ?_, hi, fun b hv o hs' => hf b hv o (nos b (h.tnew _ _ _ ht hv).2 o hs')⟩
      refine ho.kept (w' := w') ⟨hb.os, hb.tape, hb.output, hb.size, fun k hk _ => hb.block k hk⟩ (row := none) ?_
      cases v.ownBlock <;> simp
  · have := h.rnew r b hr
    exact ⟨this.1, Nat.lt_of_lt_of_le this.2 hb.size⟩
  · have := h.tnew t v b ht hv
    exact ⟨this.1, Nat.lt_of_lt_of_le this.2 hb.size⟩
  · rcases h2 b o hs with x | x
    · exact h.snew b o x
    · exact .inr (by omega)

/-- Only the settled cells have grown, by those of a variable. -/
theorem Inv.settle (h : Inv P w0 S0 G st w) {r : Nat} {s : Slot} {b : Nat} {cells : Array Value} {t : TypeId} (hr : G.R r b) (hh : w.heap[b]? = some (.cells cells t (0, 0)))
    (hkeep : RepS P w0.heap.size { G with S := fun b' o => G.S b' o ∨ (b' = b ∧ o < cells.size) } w r (fz s)) :
    Inv P w0 S0 { G with S := fun b' o => G.S b' o ∨ (b' = b ∧ o < cells.size) } (st.set r (fz s)) w ∧ Gro G.S w (fun b' o => G.S b' o ∨ (b' = b ∧ o < cells.size)) w := by
  have g : Gro G.S w (fun b' o => G.S b' o ∨ (b' = b ∧ o < cells.size)) w := ⟨fun _ _ h => .inl h, fun _ _ _ => rfl⟩
  have hb := h.rnew _ _ hr
  refine ⟨{ below := h.below, slots := fun id s' hs' => ?_, rlt := by simpa using h.rlt, tlt := by simpa using h.tlt, rfun := h.rfun, tfun := h.tfun, rinj := h.rinj, tinj := h.tinj, rt := h.rt, rnew := h.rnew, tnew := h.tnew, s0 := fun b o hs => .inl (h.s0 _ _ hs), snew := fun b' o hs => ?_, slt := fun b' o hs => ?_ }, g⟩
  · rw [List.getElem?_set] at hs'
    by_cases hid : r = id
    · subst hid
      have hlt : r < st.length := h.rlt _ _ hr
      simp [hlt] at hs'
      subst hs'
      exact hkeep
    · simp [hid] at hs'
      have hold := h.slots id s' hs'
      cases s' with
      | var m cs =>
        obtain ⟨b', t, cells', hr', hbb, hh', hc, hm, hm'⟩ := hold
        have hne : b' ≠ b := fun e => hid (h.rinj r id b hr (e ▸ hr'))
        exact ⟨b', t, cells', hr', hbb, hh', hc.mono g, fun e o ho => by rcases ho with ho | ⟨e', _⟩; exact hm e o ho; exact hne e', fun e o ho => .inl (hm' e o ho)⟩
      | row m sz n f =>
        obtain ⟨b', t, cells', hr', hbb, hh', hcs, hc, hm, hm'⟩ := hold
        have hne : b' ≠ b := fun e => hid (h.rinj r id b hr (e ▸ hr'))
        exact ⟨b', t, cells', hr', hbb, hh', hcs, fun i hi => (hc i hi).mono g, fun e o ho => by rcases ho with ho | ⟨e', _⟩; exact hm e o ho; exact hne e', fun e o ho => .inl (hm' e o ho)⟩
      | tok e =>
        obtain ⟨v, n, size, xs, ht, ho, hi, hf⟩ := hold
        refine ⟨v, n, size, xs, ht, ho, hi, fun b' hv o hs' => ?_⟩
        rcases hs' with hs' | ⟨e', _⟩
        · exact hf b' hv o hs'
        · subst e'; exact (h.rt r id v b' hr ht hv).elim
  · rcases hs with hs | ⟨e, _⟩
    · exact h.snew b' o hs
    · subst e; exact .inr hb.1
  · rcases hs with hs | ⟨e, _⟩
    · exact h.slt b' o hs
    · subst e; exact hb.2

theorem addr_add (b o n : Nat) : (⟨b, o, none⟩ : Addr).add n = ⟨b, o + n, none⟩ := by unfold Addr.add; split <;> simp_all

theorem cell_at_block {w : World} {b : Nat} {cells : Array Value} {t : TypeId} {f : Nat × Nat} (h : w.heap[b]? = some (.cells cells t f)) (o : Nat) : w.cell? ⟨b, o, none⟩ = cells[o]? := by
  simp [World.cell?, h]

/-- What stands in a settled block is settled where it is looked at. -/
theorem AtS.block {S : Nat → Nat → Prop} {w : World} {b : Nat} {cells : Array Value} {t : TypeId} {f : Nat × Nat} (h : w.heap[b]? = some (.cells cells t f)) (hS : ∀ o, o < cells.size → S b o) (o0 o : Nat) (l : List Value)
    (hl : ∀ j u, l[j]? = some u → cells[o0 + (o + j)]? = some u) : AtS S w (some ⟨b, o0, none⟩) o l := by
  intro j u hj
  have hc := hl j u hj
  refine ⟨_, rfl, ?_, ?_⟩
  · rw [addr_add, cell_at_block h]; exact hc
  · exact hS _ (Array.getElem?_eq_some_iff.1 hc).1

theorem set_same {α : Type} {l : List α} {i : Nat} {x : α} (h : l[i]? = some x) : l.set i x = l := by
  apply List.ext_getElem?
  intro j
  rw [List.getElem?_set]
  by_cases hij : i = j
  · subst hij
    have := (List.getElem?_eq_some_iff.1 h).1
    rw [if_pos rfl, if_pos this, h]
  · rw [if_neg hij]

/-- A value is made fit to be kept: what its variable holds is settled. -/
theorem toC_sound {β : Type} {q : Bool} {h : HV} {K : HV → List Slot → Option β} {r : β} {v : Value} (hI : Inv P w0 S0 G st w) (hv : RepV G w h v) (hk : toC q st h K = some r) :
    ∃ c st' S', K c st' = some r ∧ Inv P w0 S0 { G with S := S' } st' w ∧ Gro G.S w S' w ∧ RepC S' w c v ∧ (q = true → st' = st) ∧ st'.length = st.length := by
  have plain : ∀ c, RepC G.S w c v → K c st = some r → ∃ c st' S', K c st' = some r ∧ Inv P w0 S0 { G with S := S' } st' w ∧ Gro G.S w S' w ∧ RepC S' w c v ∧ (q = true → st' = st) ∧ st'.length = st.length :=
    fun c hc hK => ⟨c, st, G.S, hK, hI, Gro.refl _ _, hc, fun _ => rfl, rfl⟩
  unfold toC at hk
  split at hk
  · exact plain _ hv.2 hk
  · rename_i r' off
    split at hk
    · rename_i m cs hs
      obtain ⟨hqm, hk⟩ := br_none' hk
      obtain ⟨b, hR, rfl⟩ := hv
      obtain ⟨b', t, cells, hR', hbb, hh, hc, hm, hm'⟩ := hI.slots _ _ hs
      obtain rfl := hI.rfun _ _ _ hR hR'
      have key := hI.settle (s := .var m cs) hR hh (by
        refine ⟨b, t, cells, hR, hbb, hh, hc.mono ⟨fun _ _ h => .inl h, fun _ _ _ => rfl⟩, fun e => (by cases e), fun _ o ho => .inr ⟨rfl, ho⟩⟩)
      refine ⟨_, _, _, hk, key.1, key.2, ?_, fun hq => ?_, by simp⟩
      · have := RepC.ptr (S := fun b' o => G.S b' o ∨ (b' = b ∧ o < cells.size)) (w := w) cs off ⟨b, 0, none⟩ cells.toList (hc.mono key.2)
          (AtS.block hh (fun o ho => .inr ⟨rfl, ho⟩) 0 0 _ (fun j u hj => by simpa using hj))
        rw [addr_add] at this
        simpa using this
      · subst hq
        have : m = false := by simpa using hqm
        subst this
        exact set_same hs
    · cases hk
  · rename_i r' sz lo n
    split at hk
    · rename_i m sz' n' f hs
      obtain ⟨hqm, hk⟩ := br_none' hk
      obtain ⟨hsz, hk⟩ := br_none hk
      simp only [Bool.and_eq_true, beq_iff_eq, decide_eq_true_eq] at hsz
      obtain ⟨rfl, hln⟩ := hsz
      obtain ⟨b, A, c, hR, rfl, hnc, hA⟩ := hv
      obtain ⟨b', t, cells, hR', hbb, hh, hcs, hc, hm, hm'⟩ := hI.slots _ _ hs
      obtain rfl := hI.rfun _ _ _ hR hR'
      have key := hI.settle (s := .row m sz n' f) hR hh (by
        refine ⟨b, t, cells, hR, hbb, hh, hcs, fun i hi => (hc i hi).mono ⟨fun _ _ h => .inl h, fun _ _ _ => rfl⟩, fun e => (by cases e), fun _ o ho => .inr ⟨rfl, ho⟩⟩)
      have hsub : ∀ i, i < n' → (i + 1) * sz ≤ n' * sz := fun i hi => Nat.mul_le_mul_right _ hi
      refine ⟨_, _, _, hk, key.1, key.2, ?_, fun hq => ?_, by simp⟩
      · refine RepC.lst sz n _ A c (fun i => (cells.toList.drop ((lo + i) * sz)).take sz) (fun i hi => (hc (lo + i) (by omega)).mono key.2) (fun i hi => ?_) (fun i hi => ?_) hnc
        · have := hsub (lo + i) (by omega)
          rw [Nat.add_mul, Nat.one_mul] at this
          simp [hcs]
          omega
        · have hA' := hA (by omega)
          subst hA'
          refine AtS.block hh (fun o ho => .inr ⟨rfl, ho⟩) _ _ _ (fun j u hj => ?_)
          rw [List.getElem?_take] at hj
          split at hj
          · rw [List.getElem?_drop, Array.getElem?_toList] at hj
            rw [← hj, Nat.add_mul]
            congr 1
            omega
          · cases hj
      · subst hq
        have : m = false := by simpa using hqm
        subst this
        exact set_same hs
    · cases hk
  · rename_i r' sz i off
    split at hk
    · rename_i m sz' n' f hs
      obtain ⟨hqm, hk⟩ := br_none' hk
      obtain ⟨hsz, hk⟩ := br_none hk
      simp only [Bool.and_eq_true, beq_iff_eq, decide_eq_true_eq] at hsz
      obtain ⟨rfl, hin⟩ := hsz
      obtain ⟨b, hR, rfl⟩ := hv
      obtain ⟨b', t, cells, hR', hbb, hh, hcs, hc, hm, hm'⟩ := hI.slots _ _ hs
      obtain rfl := hI.rfun _ _ _ hR hR'
      have key := hI.settle (s := .row m sz n' f) hR hh (by
        refine ⟨b, t, cells, hR, hbb, hh, hcs, fun i hi => (hc i hi).mono ⟨fun _ _ h => .inl h, fun _ _ _ => rfl⟩, fun e => (by cases e), fun _ o ho => .inr ⟨rfl, ho⟩⟩)
      refine ⟨_, _, _, hk, key.1, key.2, ?_, fun hq => ?_, by simp⟩
      · have := RepC.ptr (S := fun b' o => G.S b' o ∨ (b' = b ∧ o < cells.size)) (w := w) (f i) off ⟨b, i * sz, none⟩ _ ((hc i hin).mono key.2)
          (AtS.block hh (fun o ho => .inr ⟨rfl, ho⟩) (i * sz) 0 _ (fun j u hj => by
            rw [List.getElem?_take] at hj
            split at hj
            · rw [List.getElem?_drop, Array.getElem?_toList] at hj
              rw [← hj, Nat.zero_add]
            · cases hj))
        rwa [addr_add] at this
      · subst hq
        have : m = false := by simpa using hqm
        subst this
        exact set_same hs
    · cases hk
  · cases hk
  · cases hk
  · rename_i h1 h2 h3 h4 h5 h6
    refine plain _ ?_ hk
    cases h with
    | own a b c d => exact (h1 _ _ _ _ rfl).elim
    | var a b => exact (h2 _ _ rfl).elim
    | arr a b c d => exact (h3 _ _ _ _ rfl).elim
    | elt a b c d => exact (h4 _ _ _ _ rfl).elim
    | undef => exact (h5 rfl).elim
    | tup a => exact (h6 _ rfl).elim
    | mp a => exact hv.elim
    | ow a => exact hv.elim
    | nl a b => exact hv.elim
    | _ => exact hv

theorem toCs_sound {β : Type} {q : Bool} {hs : List HV} : ∀ {st : List Slot} {G : Gh} {K : List HV → List Slot → Option β} {r : β} {vs : List Value} (_ : Inv P w0 S0 G st w) (_ : hs.length = vs.length) (_ : ∀ (i : Nat) h v, hs[i]? = some h → vs[i]? = some v → RepV G w h v) (_ : toCs q st hs K = some r),
    ∃ cs st' S', K cs st' = some r ∧ Inv P w0 S0 { G with S := S' } st' w ∧ Gro G.S w S' w ∧ RepTs S' w cs vs ∧ (q = true → st' = st) ∧ st'.length = st.length := by
  induction hs with
  | nil =>
    intro st G K r vs hI hl _ hk
    cases vs with
    | nil => exact ⟨[], st, G.S, hk, hI, Gro.refl _ _, .nil, fun _ => rfl, rfl⟩
    | cons v vs => simp at hl
  | cons h hs ih =>
    intro st G K r vs hI hl hv hk
    cases vs with
    | nil => simp at hl
    | cons v vs =>
      obtain ⟨c, st1, S1, hk1, hI1, g1, hc, hq1, hl1⟩ := toC_sound hI (hv 0 h v rfl rfl) hk
      obtain ⟨cs, st2, S2, hk2, hI2, g2, hcs, hq2, hl2⟩ := ih (G := { G with S := S1 }) (vs := vs) hI1 (by simpa using hl)
        (fun i x y hx hy => RepV.mono (G := G) (G' := { G with S := S1 }) g1 (fun _ _ h => h) (fun _ _ h => h) (hv (i + 1) x y (by simpa using hx) (by simpa using hy))) hk1
      exact ⟨c :: cs, st2, S2, hk2, hI2, g1.trans g2, .cons _ _ _ _ (hc.mono g2) hcs, fun e => (hq2 e).trans (hq1 e), hl2.trans hl1⟩
end
end Go.Eng
end

section
namespace Go.Eng
open Go.RowKit

/-- A call's answer. -/
def RepR (S : Nat → Nat → Prop) (w : World) : HV → Value → Prop
  | .tup hs, v => ∃ us : List Value, v = .tuple us.toArray ∧ RepTs S w hs us
  | h, v => RepC S w h v
theorem RepR.repV {G : Gh} {w h v} (k : RepR G.S w h v) : RepV G w h v := by
  cases h <;> first | exact RepV.of k | exact k

def Post (S : Nat → Nat → Prop) (w : World) (r : HV) (e : Ending) (w' : World) : Prop :=
  ∃ v S', e = .returned v ∧ Below w.heap.size w w' ∧ (∀ b o, S b o → S' b o) ∧ (∀ b o, S' b o → S b o ∨ w.heap.size ≤ b) ∧ (∀ b o, S' b o → b < w'.heap.size) ∧ RepR S' w' r v

/-- What the calls answer is what the program's functions return. -/
def CallOk (P : Program) (call : Nat → List HV → Option HV) : Prop :=
  ∀ f args r, call f args = some r → ∀ (S : Nat → Nat → Prop) (w : World) (vs : List Value), (∀ b o, S b o → b < w.heap.size) → RepTs S w args vs → Calls P f vs.toArray w (Post S w r)

def OpRes {β : Type} (P : Program) (w0 : World) (S0 : Nat → Nat → Prop) (q : Bool) (G : Gh) (st : List Slot) (w : World) (K : HV → (HV → HV) → List Slot → Option β) (r : β) (o : Oper) (a : Act) : Act → World → Prop := fun a' w' =>
  ∃ hv v tr st' G', K hv tr st' = some r ∧ a' = a.put o.dst v ∧ Inv P w0 S0 G' st' w' ∧ RepV G' w' hv v ∧ (∀ h u, RepV G w h u → RepV G' w' (tr h) u) ∧
    (q = true → tr = id ∧ st' = st ∧ G'.R = G.R ∧ G'.T = G.T) ∧ Gro G.S w G'.S w'

section
variable {β : Type} {P : Program} {w0 : World} {S0 : Nat → Nat → Prop} {q : Bool} {G : Gh} {st : List Slot} {w : World} {K : HV → (HV → HV) → List Slot → Option β} {r : β} {o : Oper} {a : Act} {Q : Exit → Act → World → Prop}

theorem wp_val {v : Value} {w' : World} {next : Act → World → Prop} (h : (execOp a.eval o).run P w = .ok (.value v) w') (hn : next (a.put o.dst v) w') : o.wp P a w next Q := by
  unfold Oper.wp
  rw [h]
  exact hn

/-- An operation that only tells a value. -/
theorem res_pure (hI : Inv P w0 S0 G st w) {hv : HV} {v : Value} (hK : K hv id st = some r) (hv' : RepV G w hv v) : OpRes P w0 S0 q G st w K r o a (a.put o.dst v) w :=
  ⟨hv, v, id, st, G, hK, rfl, hI, hv', fun _ _ h => h, fun _ => ⟨rfl, rfl, rfl, rfl⟩, Gro.refl _ _⟩
theorem op_pure (hI : Inv P w0 S0 G st w) {hv : HV} {v : Value} (hrun : (execOp a.eval o).run P w = .ok (.value v) w) (hK : K hv id st = some r) (hv' : RepV G w hv v) :
    o.wp P a w (OpRes P w0 S0 q G st w K r o a) Q := wp_val hrun (res_pure hI hK hv')

/-- Behind a settling. -/
theorem res_after {S1 : Nat → Nat → Prop} {st1 : List Slot} {q' : Bool} (g : Gro G.S w S1 w) (hq : q = true → st1 = st) {a' w'} (h : OpRes P w0 S0 q' { G with S := S1 } st1 w K r o a a' w') (hqq : q = true → q' = true) : OpRes P w0 S0 q G st w K r o a a' w' := by
  obtain ⟨hv, v, tr, st', G', h1, h2, h3, h4, h5, h6, h7⟩ := h
  refine ⟨hv, v, tr, st', G', h1, h2, h3, h4, fun h u k => h5 h u (RepV.mono (G := G) (G' := { G with S := S1 }) g (fun _ _ h => h) (fun _ _ h => h) k), fun e => ?_, g.trans h7⟩
  obtain ⟨k1, k2, k3, k4⟩ := h6 (hqq e)
  exact ⟨k1, k2.trans (hq e), k3, k4⟩

/-- A new block of cells that is settled at once. -/
theorem Inv.newC (hI : Inv P w0 S0 G st w) {hs : List HV} {cells : List Value} (hc : RepCs G.S w hs cells) (t : TypeId) :
    ∃ S', Inv P w0 S0 { G with S := S' } st (w.alloc (.cells cells.toArray t)) ∧ Gro G.S w S' (w.alloc (.cells cells.toArray t)) ∧ RepCs S' (w.alloc (.cells cells.toArray t)) hs cells ∧
      (∀ (o' : Nat) (l : List Value), (∀ (j : Nat) (u : Value), l[j]? = some u → cells[o' + j]? = some u) → AtS S' (w.alloc (.cells cells.toArray t)) (some ⟨w.heap.size, 0, none⟩) o' l) ∧
      (∀ b o, S' b o → G.S b o ∨ (b = w.heap.size ∧ o < cells.length)) ∧ (∀ o, o < cells.length → S' w.heap.size o) := by
  have hb : Below w.heap.size w (w.alloc (.cells cells.toArray t)) := (Below.refl _ _).alloc (Nat.le_refl _) _
  have key := hI.grow hb (S' := fun b o => G.S b o ∨ (b = w.heap.size ∧ o < cells.length)) (fun _ _ h => .inl h) (fun b o h => by rcases h with h | ⟨h, _⟩; exact .inl h; exact .inr (by omega))
    (fun b o h => by rcases h with h | ⟨h, _⟩; exact Nat.lt_of_lt_of_le (hI.slt b o h) hb.size; rw [h]; simp)
  have hh : (w.alloc (.cells cells.toArray t)).heap[w.heap.size]? = some (.cells cells.toArray t (0, 0)) := heap_alloc_new w _
  refine ⟨_, key.1, key.2, hc.mono key.2, fun o' l hl => ?_, fun _ _ h => h, fun o ho => .inr ⟨rfl, ho⟩⟩
  exact AtS.block hh (fun o ho => .inr ⟨rfl, by simpa using ho⟩) 0 o' l (fun j u hj => by simpa using hl j u hj)

theorem op_box {t : TypeId} {x : Operand} {h : HV} (ho : o.op = .box t x) (hI : Inv P w0 S0 G st w) (hv : RepV G w h (a.eval x)) (hk : toC q st h (fun v st => K (.ptr (cellsH v) 0) id st) = some r) :
    o.wp P a w (OpRes P w0 S0 q G st w K r o a) Q := by
  obtain ⟨c, st1, S1, hk1, hI1, g1, hc, hq1, hl1⟩ := toC_sound hI hv hk
  obtain ⟨S2, hI2, g2, hc2, hat, _, _⟩ := hI1.newC (t := t) hc.cells
  refine wp_val (w' := w.alloc (.cells (a.eval x).cells t)) (v := .pointer (some ⟨w.heap.size, 0, none⟩)) (by
    simp [execOp, ho, Instr.box, newVar, newRow]) ?_
  refine res_after g1 hq1 (q' := q) ?_ (fun h => h)
  have := RepC.ptr (cellsH c) 0 ⟨w.heap.size, 0, none⟩ _ hc2 (hat 0 _ (fun j u hj => by simpa using hj))
  rw [addr_add] at this
  simp only [Array.toArray_toList] at hI2 g2 this
  exact ⟨_, _, id, st1, _, hk1, rfl, hI2, RepV.of this, fun h u k => RepV.mono (G := { G with S := S1 }) (G' := { G with S := S2 }) g2 (fun _ _ h => h) (fun _ _ h => h) k, fun _ => ⟨rfl, rfl, rfl, rfl⟩, g2⟩

theorem run_loadVar {t : TypeId} {cs : List HV} {off : Nat} {S : Nat → Nat → Prop} {cells : List Value} {ad : Addr} {K : HV → Option β} {r : β} (hk : loadC P t cs off K = some r) (hc : RepCs S w cs cells)
    (hcell : ∀ j u, cells[j]? = some u → w.cell? (ad.add j) = some u) : ∃ hv u, K hv = some r ∧ RepC S w hv u ∧ (loadVar t (ad.add off)).run P w = .ok u w := by
  have hadd : ∀ j, (ad.add off).add j = ad.add (off + j) := fun j => by unfold Addr.add; by_cases h1 : off = 0 <;> by_cases h2 : j = 0 <;> simp_all [Nat.add_assoc]
  unfold loadC at hk
  split at hk
  · rename_i n ha hs
    obtain ⟨hle, hk⟩ := br_none hk
    simp only [decide_eq_true_eq] at hle
    refine ⟨_, _, hk, .agg _ _ ((hc.drop off).take n), ?_⟩
    unfold aggT at ha
    unfold szT at hs
    have hagg : (isAgg t).run P w = .ok true w := by
      unfold isAgg
      split at ha <;> first | (rename_i hu; simp [run_underlying hu]; done) | simp at ha
    cases hi : P.info? t with
    | none => rw [hi] at hs; cases hs
    | some i =>
      rw [hi] at hs
      simp only [Option.some.injEq] at hs
      unfold loadVar
      have hlen : ((cells.drop off).take n).length = n := by have := hc.length; simp; omega
      have hl := run_loadCells_list (P := P) (w := w) (ad.add off) ((cells.drop off).take n) (fun j u hj => by
        rw [hadd]
        apply hcell
        rw [List.getElem?_take] at hj
        split at hj
        · rw [List.getElem?_drop] at hj; exact hj
        · cases hj)
      rw [hlen] at hl
      simp [hagg, sizeOf, typeInfo, hi, hs, hl]
  · rename_i n ha hs
    split at hk
    · rename_i x hx
      obtain ⟨u, hu, hr, _⟩ := hc.at hx
      refine ⟨_, u, hk, hr, ?_⟩
      unfold aggT at ha
      have hagg : (isAgg t).run P w = .ok false w := by
        unfold isAgg
        split at ha <;> first | simp at ha | skip
        rename_i d hd1 hd2 hu
        simp only [Sem.run_bind, run_underlying hu, Result.andThen_ok]
        cases d <;> first | rfl | exact (hd1 _ hu).elim | exact (hd2 _ _ hu).elim
      unfold loadVar
      simp [hagg, hcell off u hu]
    · cases hk
  · cases hk
end
end Go.Eng
end

section
namespace Go.Eng
open Go.RowKit

theorem zeroC_rep {S : Nat → Nat → Prop} {w : World} {v : Value} {z : List HV} (h : zeroC v = some z) : RepCs S w z v.cells.toList ∧ z = v.cells.toList.map cst := by
  unfold zeroC at h
  split at h
  · rename_i hall
    injection h with h
    subst h
    refine ⟨?_, rfl⟩
    generalize v.cells.toList = l at hall
    induction l with
    | nil => exact .nil
    | cons x xs ih =>
      simp only [List.map_cons, List.all_cons, Bool.and_eq_true] at hall
      rcases RepC.cst (S := S) (w := w) x with hx | hx
      · rw [hx] at hall; simp [okH] at hall
      · refine .cons _ _ _ _ hx ?_ (ih hall.2)
        have h1 := hall.1
        unfold cst at h1
        split at h1 <;> first | rfl | (simp [okH] at h1)
  · cases h


theorem likeZ_rep {S : Nat → Nat → Prop} {w : World} {a b : HV} {v : Value} (h : likeZ a b = true) (hb : RepC S w b v) : RepC S w a v := by
  unfold likeZ at h
  split at h
  · generalize hh : HV.nils = b at hb
    cases hb <;> first | cases hh | skip
    exact .lst _ 0 _ none 0 (fun _ => []) (fun i hi => by omega) (fun i hi => by omega) (fun i hi => by omega) (Nat.le_refl _)
  · exact hb
  · exact hb
  · exact hb
  · simp only [Bool.and_eq_true, decide_eq_true_eq] at h
    obtain ⟨rfl, rfl⟩ := h
    exact hb
  · have := eq_of_beq h; subst this; exact hb
  · have := of_decide_eq_true h; subst this; exact hb
  · cases h
theorem likeZs_rep {S : Nat → Nat → Prop} {w : World} : ∀ {as bs : List HV} {vs : List Value}, likeZs as bs = true → RepCs S w bs vs → RepCs S w as vs
  | [], [], _, _, h => h
  | a :: as, b :: bs, _, h, hb => by
    simp only [likeZs, Bool.and_eq_true] at h
    cases hb with | cons _ v _ vs hv h1 hs => exact .cons _ _ _ _ (likeZ_rep h.1 hv) h1 (likeZs_rep h.2 hs)
  | [], _ :: _, _, h, _ => by cases h
  | _ :: _, [], _, h, _ => by cases h
theorem zeroV_rep {P : Program} {t : TypeId} {S : Nat → Nat → Prop} {w : World} {v : Value} {z : List HV} (h : zeroV P t v = some z) : RepCs S w z v.cells.toList := by
  unfold zeroV at h
  split at h
  · rename_i z0 hz0
    obtain ⟨hr, _⟩ := zeroC_rep (S := S) (w := w) hz0
    split at h
    · rename_i z1 _
      split at h
      · rename_i hl
        injection h with h
        subst h
        exact likeZs_rep hl hr
      · injection h with h
        subst h
        exact hr
    · injection h with h
      subst h
      exact hr
  · cases h
theorem nz_rep {P : Program} {t : TypeId} {S : Nat → Nat → Prop} {w : World} {h : HV} {v : Value} (k : RepC S w h v) : RepC S w (nz P t h) v := by
  unfold nz
  split
  · split
    · generalize hh : HV.nils = b at k
      cases k <;> first | cases hh | skip
      exact .lst _ 0 _ none 0 (fun _ => []) (fun i hi => by omega) (fun i hi => by omega) (fun i hi => by omega) (Nat.le_refl _)
    · exact k
  · exact k
theorem nzs_rep {P : Program} {S : Nat → Nat → Prop} {w : World} : ∀ {ts : List TypeId} {hs : List HV} {vs : List Value}, RepTs S w hs vs → RepTs S w (nzs P ts hs) vs
  | [], _, _, h => by simpa [nzs] using h
  | _ :: _, [], _, h => by simpa [nzs] using h
  | t :: ts, h :: hs, _, k => by cases k with | cons _ v _ vs hv hs' => exact .cons _ _ _ _ (nz_rep hv) (nzs_rep hs')

section
variable {β : Type} {P : Program} {w0 : World} {S0 : Nat → Nat → Prop} {q : Bool} {G : Gh} {st : List Slot} {w : World} {K : HV → (HV → HV) → List Slot → Option β} {r : β} {o : Oper} {a : Act} {Q : Exit → Act → World → Prop}

theorem RepC.ptr_inv {S w cs off v} (h : RepC S w (.ptr cs off) v) : ∃ ad cells, v = .pointer (some (ad.add off)) ∧ RepCs S w cs cells ∧ AtS S w (some ad) 0 cells := by
  cases h with | ptr _ _ ad cells h ha => exact ⟨ad, cells, rfl, h, ha⟩
theorem AtS.cell {S w ad o cells} (h : AtS S w (some ad) o cells) : ∀ j u, cells[j]? = some u → w.cell? (ad.add (o + j)) = some u := fun j u hj => by
  obtain ⟨ad', e, hc, _⟩ := h j u hj
  injection e with e
  subst e
  exact hc

theorem op_load {t : TypeId} {x : Operand} {h : HV} (ho : o.op = .load t x) (hI : Inv P w0 S0 G st w) (hv : RepV G w h (a.eval x))
    (hk : (match (generalizing := false) h with
      | .ptr cs off => loadC P t cs off fun v => K v id st
      | .var r off => match st[r]? with
        | some (.var _ cs) => loadC P t cs off fun v => K v id st
        | _ => none
      | .elt r sz i off => match st[r]? with
        | some (.row _ sz' n f) => br (sz == sz' && decide (i < n)) (loadC P t (f i) off fun v => K v id st) none
        | _ => none
      | _ => none) = some r) :
    o.wp P a w (OpRes P w0 S0 q G st w K r o a) Q := by
  have fin : ∀ (ad : Addr) (off : Nat) (u : Value) (hvv : HV), a.eval x = .pointer (some (ad.add off)) → (loadVar t (ad.add off)).run P w = .ok u w → K hvv id st = some r → RepC G.S w hvv u → o.wp P a w (OpRes P w0 S0 q G st w K r o a) Q := by
    intro ad off u hvv he hl hK hc
    exact op_pure hI (by simp [execOp, ho, Instr.loadAt, Instr.sureAddr, he, hl]) hK (RepV.of hc)
  cases h with
  | ptr cs off =>
    obtain ⟨ad, cells, he, hc, hat⟩ := RepC.ptr_inv hv
    obtain ⟨hvv, u, hK, hcu, hl⟩ := run_loadVar hk hc (ad := ad) (w := w) (fun j u hj => by simpa using hat.cell j u hj)
    exact fin ad off u hvv he hl hK hcu
  | var r' off =>
    simp only at hk
    split at hk
    · rename_i m cs hs
      obtain ⟨b, hR, he⟩ := hv
      obtain ⟨b', t', cells, hR', hbb, hh, hc, hm, hm'⟩ := hI.slots _ _ hs
      obtain rfl := hI.rfun _ _ _ hR hR'
      obtain ⟨hvv, u, hK, hcu, hl⟩ := run_loadVar hk hc (ad := ⟨b, 0, none⟩) (w := w) (fun j u hj => by rw [addr_add, cell_at_block hh]; simpa using hj)
      exact fin ⟨b, 0, none⟩ off u hvv (by rw [addr_add, he]; simp) hl hK hcu
    · cases hk
  | elt r' sz i off =>
    simp only at hk
    split at hk
    · rename_i m sz' n f hs
      obtain ⟨hsz, hk2⟩ := br_none hk
      clear hk
      simp only [Bool.and_eq_true, beq_iff_eq, decide_eq_true_eq] at hsz
      obtain ⟨rfl, hin⟩ := hsz
      obtain ⟨b, hR, he⟩ := hv
      obtain ⟨b', t', cells, hR', hbb, hh, hcs, hc, hm, hm'⟩ := hI.slots _ _ hs
      obtain rfl := hI.rfun _ _ _ hR hR'
      obtain ⟨hvv, u, hK, hcu, hl⟩ := run_loadVar hk2 (hc i hin) (ad := ⟨b, i * sz, none⟩) (w := w) (fun j u hj => by
        rw [addr_add, cell_at_block hh]
        rw [List.getElem?_take] at hj
        split at hj
        · rw [List.getElem?_drop, Array.getElem?_toList] at hj; exact hj
        · cases hj)
      exact fin ⟨b, i * sz, none⟩ off u hvv (by rw [addr_add, he]) hl hK hcu
    · cases hk
  | _ => cases hk

/-- A variable of one's own is written. -/
theorem Inv.wrote (hI : Inv P w0 S0 G st w) {r' : Nat} {s' : Slot} {b : Nat} (hR : G.R r' b) (hm : ∀ o, ¬ G.S b o) {old : Array Value} {t : TypeId} (hh : w.heap[b]? = some (.cells old t (0, 0))) (new : Array Value)
    (hs' : RepS P w0.heap.size G (w.setRow b new) r' s') : Inv P w0 S0 G (st.set r' s') (w.setRow b new) ∧ Gro G.S w G.S (w.setRow b new) := by
  have g : Gro G.S w G.S (w.setRow b new) := ⟨fun _ _ h => h, fun b' o hs => cell_setRow_other w b new _ (fun e => hm o (by simpa using (e ▸ hs : G.S b o)))⟩
  have hb := hI.rnew _ _ hR
  refine ⟨{ below := hI.below.trans ⟨rfl, rfl, rfl, by simp, fun k hk => setRow_other w b k new (by omega)⟩, slots := fun id s hs => ?_, rlt := by simpa using hI.rlt, tlt := by simpa using hI.tlt, rfun := hI.rfun, tfun := hI.tfun, rinj := hI.rinj, tinj := hI.tinj, rt := hI.rt, rnew := by simpa using hI.rnew, tnew := by simpa using hI.tnew, s0 := hI.s0, snew := hI.snew, slt := by simpa using hI.slt }, g⟩
  rw [List.getElem?_set] at hs
  by_cases hid : r' = id
  · subst hid
    have hlt := hI.rlt _ _ hR
    rw [if_pos rfl, if_pos hlt] at hs
    injection hs with hs
    subst hs
    exact hs'
  · rw [if_neg hid] at hs
    have hold := hI.slots id s hs
    cases s with
    | var m cs =>
      obtain ⟨b', t, cells', hr', hbb, hh', hc, hm1, hm2⟩ := hold
      have hne : b' ≠ b := fun e => hid (hI.rinj r' id b hR (e ▸ hr'))
      exact ⟨b', t, cells', hr', hbb, (setRow_other w b b' new hne).trans hh', hc.mono g, hm1, hm2⟩
    | row m sz n f =>
      obtain ⟨b', t, cells', hr', hbb, hh', hcs, hc, hm1, hm2⟩ := hold
      have hne : b' ≠ b := fun e => hid (hI.rinj r' id b hR (e ▸ hr'))
      exact ⟨b', t, cells', hr', hbb, (setRow_other w b b' new hne).trans hh', hcs, fun i hi => (hc i hi).mono g, hm1, hm2⟩
    | tok e =>
      obtain ⟨v, n, size, xs, ht, ho, hi, hf⟩ := hold
      refine ⟨v, n, size, xs, ht, ?_, hi, hf⟩
      refine ho.kept (w' := w.setRow b new) (row := some b) ⟨rfl, rfl, rfl, by simp, fun k _ hk => setRow_other w b k new (fun e => hk (by rw [e]))⟩ ?_
      cases hov : v.ownBlock with
      | none => exact .inl rfl
      | some g' => exact .inr (fun e => by injection e with e; subst e; exact (hI.rt r' id v g' hR ht hov).elim)

theorem splice_length (cs : List HV) (off : Nat) (new : List HV) (h : off + new.length ≤ cs.length) : (splice cs off new).length = cs.length := by
  unfold splice; simp; omega
theorem RepCs.splice {S w cs cells new news} (h : RepCs S w cs cells) (hn : RepCs S w new news) (off : Nat) : RepCs S w (splice cs off new) (cells.take off ++ news ++ cells.drop (off + news.length)) := by
  unfold Eng.splice
  rw [hn.length]
  exact ((h.take off).append hn).append (h.drop _)

theorem run_storeVar {t : TypeId} {b off : Nat} {cur : Array Value} {t' : TypeId} {v : Value} {n : Nat} (hs : szT P t = some n) (hh : w.heap[b]? = some (.cells cur t' (0, 0))) (hn : v.cells.size = n) (hle : off + n ≤ cur.size) (h1 : ∀ u ∈ v.cells.toList, u.oneCell' = true) :
    (storeVar t ⟨b, off, none⟩ v).run P w = .ok () (w.setRow b (cur.toList.take off ++ v.cells.toList ++ cur.toList.drop (off + n)).toArray) := by
  unfold szT at hs
  cases hi : P.info? t with
  | none => rw [hi] at hs; cases hs
  | some i =>
    rw [hi] at hs
    simp only [Option.some.injEq] at hs
    have hst := run_storeCells_at (P := P) b off t' v.cells.toList 0 cur w hh (by simp; omega) h1
    simp only [Nat.add_zero, Array.length_toList, hn] at hst
    unfold storeVar
    simp [sizeOf, typeInfo, hi, hs, hn, hst]

theorem op_store {t : TypeId} {x y : Operand} {hx hy : HV} (ho : o.op = .store t x y) (hd : q = false) (hI : Inv P w0 S0 G st w) (hvx : RepV G w hx (a.eval x)) (hvy : RepV G w hy (a.eval y))
    (hk : (toC false st hy fun v st => stored P t (nz P t v) hx st fun st => K .undef id st) = some r) :
    o.wp P a w (OpRes P w0 S0 q G st w K r o a) Q := by
  obtain ⟨c0, st1, S1, hk1, hI1, g1, hc0, hq1, hl1⟩ := toC_sound hI hvy hk
  have hc := nz_rep (P := P) (t := t) hc0
  generalize nz P t c0 = c at hc hk1
  unfold stored at hk1
  have hvx1 : RepV { G with S := S1 } w hx (a.eval x) := RepV.mono (G := G) (G' := { G with S := S1 }) g1 (fun _ _ h => h) (fun _ _ h => h) hvx
  have hcc := hc.cells
  have hcl : (a.eval y).cells.size = (cellsH c).length := by have := hcc.length; simpa using this
  have fin : ∀ (b off : Nat) (cur : Array Value) (t' : TypeId) (n : Nat) (r' : Nat) (s' : Slot), a.eval x = .pointer (some ⟨b, off, none⟩) → szT P t = some n → w.heap[b]? = some (.cells cur t' (0, 0)) → (cellsH c).length = n → off + n ≤ cur.size →
      G.R r' b → (∀ o, ¬ S1 b o) → RepS P w0.heap.size { G with S := S1 } (w.setRow b (cur.toList.take off ++ (a.eval y).cells.toList ++ cur.toList.drop (off + n)).toArray) r' s' → K .undef id (st1.set r' s') = some r → o.wp P a w (OpRes P w0 S0 q G st w K r o a) Q := by
    intro b off cur t' n r' s' he hsz hh hn hle hR hm hs' hK
    have hrun := run_storeVar (P := P) hsz hh (v := a.eval y) (by rw [hcl, hn]) hle hcc.one
    have hnew := hI1.wrote hR hm hh _ hs'
    have hr : (execOp a.eval o).run P w = .ok .skip (w.setRow b (cur.toList.take off ++ (a.eval y).cells.toList ++ cur.toList.drop (off + n)).toArray) := by
      simp [execOp, ho, Instr.storeAt, Instr.sureAddr, he, hrun]
    unfold Oper.wp
    rw [hr]
    show OpRes P w0 S0 q G st w K r o a (a.put o.dst Go.undef) _
    refine ⟨.undef, Go.undef, id, _, _, hK, rfl, hnew.1, trivial, fun h u k => RepV.mono (G := G) (G' := { G with S := S1 }) (g1.trans hnew.2) (fun _ _ h => h) (fun _ _ h => h) k, fun e => (by rw [hd] at e; cases e), g1.trans hnew.2⟩
  split at hk1
  · rename_i r' off n hsz
    split at hk1
    · rename_i cs hs
      split at hk1
      · rename_i hcond
        obtain ⟨b, hR, he⟩ := hvx1
        obtain ⟨b', t', cells, hR', hbb, hh, hcs, hm, hm'⟩ := hI1.slots _ _ hs
        obtain rfl := hI1.rfun _ _ _ hR hR'
        have hlen := hcs.length
        simp only [Array.length_toList] at hlen
        have hm0 := hm rfl
        have g2 : Gro S1 w S1 (w.setRow b (cells.toList.take off ++ (a.eval y).cells.toList ++ cells.toList.drop (off + n)).toArray) := ⟨fun _ _ h => h, fun b' o hs => cell_setRow_other w b _ _ (fun e => hm0 o (by simpa using (e ▸ hs : S1 b o)))⟩
        refine fin b off cells t' n r' _ he hsz hh hcond.1 (by omega) hR hm0 ?_ hk1
        refine ⟨b, t', _, hR, hbb, setRow_heap w b cells _ t' _ hh, ?_, fun _ => hm0, fun e => by cases e⟩
        have := (hcs.splice hcc off).mono g2
        rw [show (a.eval y).cells.toList.length = n from by simp [hcl, hcond.1]] at this
        simpa using this
      · cases hk1
    · cases hk1
  · rename_i r' sz' i off n hsz
    split at hk1
    · rename_i sz m f hs
      split at hk1
      · rename_i hcond
        obtain ⟨rfl, him, hn, hle⟩ := hcond
        obtain ⟨b, hR, he⟩ := hvx1
        obtain ⟨b', t', cells, hR', hbb, hh, hcs, hc', hm, hm'⟩ := hI1.slots _ _ hs
        obtain rfl := hI1.rfun _ _ _ hR hR'
        have hm0 := hm rfl
        have hmul : (i + 1) * sz ≤ m * sz := Nat.mul_le_mul_right _ him
        rw [Nat.add_mul, Nat.one_mul] at hmul
        obtain ⟨new, hnew⟩ : ∃ new, new = (cells.toList.take (i * sz + off) ++ (a.eval y).cells.toList ++ cells.toList.drop (i * sz + off + n)).toArray := ⟨_, rfl⟩
        have g2 : Gro S1 w S1 (w.setRow b new) := ⟨fun _ _ h => h, fun b' o hs => cell_setRow_other w b _ _ (fun e => hm0 o (by simpa using (e ▸ hs : S1 b o)))⟩
        have hyl : (a.eval y).cells.toList.length = n := by simp [hcl, hn]
        refine fin b (i * sz + off) cells t' n r' _ he hsz hh hn (by omega) hR hm0 ?_ hk1
        rw [← hnew]
        have hnl : new.size = m * sz := by rw [hnew]; simp; simp at hyl; omega
        refine ⟨b, t', new, hR, hbb, setRow_heap w b cells _ t' _ hh, hnl, fun j hj => ?_, fun _ => hm0, fun e => by cases e⟩
        by_cases hji : j = i
        · subst hji
          have h1 := ((hc' j him).splice hcc off).mono g2
          simp only [decide_true, cond_true]
          have e : (new.toList.drop (j * sz)).take sz = ((cells.toList.drop (j * sz)).take sz).take off ++ (a.eval y).cells.toList ++ ((cells.toList.drop (j * sz)).take sz).drop (off + (a.eval y).cells.toList.length) := by
            rw [hnew]
            apply List.ext_getElem?
            intro p
            simp only [List.getElem?_append, List.getElem?_take, List.getElem?_drop, List.length_append, List.length_take, List.length_drop, hyl, Array.length_toList, hcs]
            repeat' split
            all_goals first | rfl | omega | (congr 1; omega) | skip
          rw [e]
          exact h1
        · simp only [hji, decide_false, cond_false]
          have h1 := (hc' j hj).mono g2
          have hjm : (j + 1) * sz ≤ m * sz := Nat.mul_le_mul_right _ hj
          rw [Nat.add_mul, Nat.one_mul] at hjm
          have hord : (j + 1) * sz ≤ i * sz ∨ (i + 1) * sz ≤ j * sz := by
            rcases Nat.lt_or_gt_of_ne hji with h | h
            · exact .inl (Nat.mul_le_mul_right _ h)
            · exact .inr (Nat.mul_le_mul_right _ h)
          rw [Nat.add_mul, Nat.one_mul, Nat.add_mul, Nat.one_mul] at hord
          have e : (new.toList.drop (j * sz)).take sz = (cells.toList.drop (j * sz)).take sz := by
            rw [hnew]
            apply List.ext_getElem?
            intro p
            simp only [List.getElem?_append, List.getElem?_take, List.getElem?_drop, List.length_append, List.length_take, hyl, Array.length_toList, hcs]
            by_cases hp : p < sz
            · simp only [hp, if_true]
              repeat' split
              all_goals first | rfl | omega | (congr 1; omega) | skip
            · simp [hp]
          rw [e]
          exact h1
      · cases hk1
    · cases hk1
  · cases hk1
end
end Go.Eng
end

section
namespace Go.Eng
open Go.RowKit

section
variable {β : Type} {P : Program} {w0 : World} {S0 : Nat → Nat → Prop} {q : Bool} {G : Gh} {st : List Slot} {w : World} {K : HV → (HV → HV) → List Slot → Option β} {r : β} {o : Oper} {a : Act} {Q : Exit → Act → World → Prop}

theorem RepS.monoRT {base : Nat} {G' : Gh} (hS : G'.S = G.S) (hR : ∀ r b, G.R r b → G'.R r b) (hT : ∀ t v, G.T t v → G'.T t v) {id : Nat} {s : Slot} (h : RepS P base G w id s) : RepS P base G' w id s := by
  obtain ⟨S', R', T'⟩ := G'
  subst hS
  cases s with
  | var m cs => obtain ⟨g, t, cells, h1, h2⟩ := h; exact ⟨g, t, cells, hR _ _ h1, h2⟩
  | row m sz n f => obtain ⟨g, t, cells, h1, h2⟩ := h; exact ⟨g, t, cells, hR _ _ h1, h2⟩
  | tok e => obtain ⟨v, n, size, xs, h1, h2⟩ := h; exact ⟨v, n, size, xs, hT _ _ h1, h2⟩

def pushR (G : Gh) (r g : Nat) : Gh := { G with R := fun r' b => G.R r' b ∨ (r' = r ∧ b = g) }
def pushT (G : Gh) (t : Nat) (v : Value) : Gh := { G with T := fun t' v' => G.T t' v' ∨ (t' = t ∧ v' = v) }

theorem Inv.pushR (hI : Inv P w0 S0 G st w) {g : Nat} (hg : w0.heap.size ≤ g ∧ g < w.heap.size) (hfr : ∀ r, ¬ G.R r g) (hft : ∀ t v, G.T t v → v.ownBlock ≠ some g) {s : Slot} (hs : RepS P w0.heap.size (pushR G st.length g) w st.length s) :
    Inv P w0 S0 (pushR G st.length g) (st ++ [s]) w where
  below := hI.below
  slots := fun id s' h => by
    rw [List.getElem?_append] at h
    split at h
    · exact RepS.monoRT (G := G) (h := hI.slots id s' h) (G' := Eng.pushR G st.length g) rfl (fun _ _ h => .inl h) (fun _ _ h => h)
    · rename_i hlt
      cases hid : id - st.length with
      | zero => rw [hid] at h; injection h with h; subst h; have : id = st.length := by omega
                subst this; exact hs
      | succ k => rw [hid] at h; simp at h
  rlt := fun r b h => by rcases h with h | ⟨h, _⟩; have := hI.rlt _ _ h; simp; omega; simp [h]
  tlt := fun t v h => by have := hI.tlt _ _ h; simp; omega
  rfun := fun r b b' h h' => by
    rcases h with h | ⟨h, e⟩ <;> rcases h' with h' | ⟨h', e'⟩
    · exact hI.rfun _ _ _ h h'
    · have := hI.rlt _ _ h; omega
    · have := hI.rlt _ _ h'; omega
    · rw [e, e']
  tfun := hI.tfun
  rinj := fun r r' b h h' => by
    rcases h with h | ⟨h, e⟩ <;> rcases h' with h' | ⟨h', e'⟩
    · exact hI.rinj _ _ _ h h'
    · subst e'; exact (hfr _ h).elim
    · subst e; exact (hfr _ h').elim
    · rw [h, h']
  tinj := hI.tinj
  rt := fun r t v b h h' hv => by
    rcases h with h | ⟨_, e⟩
    · exact hI.rt _ _ _ _ h h' hv
    · subst e; exact hft _ _ h' hv
  rnew := fun r b h => by rcases h with h | ⟨_, e⟩; exact hI.rnew _ _ h; subst e; exact hg
  tnew := hI.tnew
  s0 := hI.s0
  snew := hI.snew
  slt := hI.slt

theorem Inv.pushT (hI : Inv P w0 S0 G st w) {v : Value} (hg : ∀ g, v.ownBlock = some g → w0.heap.size ≤ g ∧ g < w.heap.size) (hfr : ∀ r g, G.R r g → v.ownBlock ≠ some g) (hft : ∀ t u g, G.T t u → u.ownBlock = some g → v.ownBlock ≠ some g) {s : Slot} (hs : RepS P w0.heap.size (pushT G st.length v) w st.length s) :
    Inv P w0 S0 (pushT G st.length v) (st ++ [s]) w where
  below := hI.below
  slots := fun id s' h => by
    rw [List.getElem?_append] at h
    split at h
    · exact RepS.monoRT (G := G) (h := hI.slots id s' h) (G' := Eng.pushT G st.length v) rfl (fun _ _ h => h) (fun _ _ h => .inl h)
    · rename_i hlt
      cases hid : id - st.length with
      | zero => rw [hid] at h; injection h with h; subst h; have : id = st.length := by omega
                subst this; exact hs
      | succ k => rw [hid] at h; simp at h
  rlt := fun r b h => by have := hI.rlt _ _ h; simp; omega
  tlt := fun t v h => by rcases h with h | ⟨h, _⟩; have := hI.tlt _ _ h; simp; omega; simp [h]
  rfun := hI.rfun
  tfun := fun r b b' h h' => by
    rcases h with h | ⟨h, e⟩ <;> rcases h' with h' | ⟨h', e'⟩
    · exact hI.tfun _ _ _ h h'
    · have := hI.tlt _ _ h; omega
    · have := hI.tlt _ _ h'; omega
    · rw [e, e']
  rinj := hI.rinj
  tinj := fun t t' u u' b h h' hu hu' => by
    rcases h with h | ⟨h, e⟩ <;> rcases h' with h' | ⟨h', e'⟩
    · exact hI.tinj _ _ _ _ _ h h' hu hu'
    · subst e'; exact (hft _ _ _ h hu hu').elim
    · subst e; exact (hft _ _ _ h' hu' hu).elim
    · rw [h, h']
  rt := fun r t u b h h' hu => by
    rcases h' with h' | ⟨_, e⟩
    · exact hI.rt _ _ _ _ h h' hu
    · subst e; exact hfr _ _ h hu
  rnew := hI.rnew
  tnew := fun t u b h hu => by rcases h with h | ⟨_, e⟩; exact hI.tnew _ _ _ h hu; subst e; exact hg _ hu
  s0 := hI.s0
  snew := hI.snew
  slt := hI.slt

theorem op_alloc {t : TypeId} (ho : o.op = .alloc t) (hq : q = false) (hI : Inv P w0 S0 G st w)
    (hk : (match zeroT P t with | some z => K (.var st.length 0) id (st ++ [.var true z]) | none => none) = some r) : o.wp P a w (OpRes P w0 S0 q G st w K r o a) Q := by
  split at hk
  · rename_i z hz
    unfold zeroT at hz
    split at hz
    · rename_i i hi
      split at hz
      · rename_i v hv
        have hrep := zeroV_rep (S := G.S) (w := w) hz
        have hb : Below w.heap.size w (w.alloc (.cells v.cells t)) := (Below.refl _ _).alloc (Nat.le_refl _) _
        have key := hI.grow hb (S' := G.S) (fun _ _ h => h) (fun b o h => .inl h) (fun b o h => Nat.lt_of_lt_of_le (hI.slt b o h) hb.size)
        have hh : (w.alloc (.cells v.cells t)).heap[w.heap.size]? = some (.cells v.cells t (0, 0)) := heap_alloc_new w _
        have hI2 := key.1.pushR (g := w.heap.size) (s := .var true z) ⟨hI.below.size, by simp⟩ (fun r h => by have := (hI.rnew _ _ h).2; omega) (fun t v h e => by have := (hI.tnew _ _ _ h e).2; omega)
          ⟨w.heap.size, t, v.cells, .inr ⟨rfl, rfl⟩, hI.below.size, hh, hrep.mono key.2, fun _ o hs => by have := hI.slt _ _ hs; omega, fun e => by cases e⟩
        refine wp_val (w' := w.alloc (.cells v.cells t)) (v := .pointer (some ⟨w.heap.size, 0, none⟩)) (by
          simp [execOp, ho, Instr.alloc, zeroValue, typeInfo, hi, hv, newVar, newRow]) ?_
        exact ⟨_, _, id, _, _, hk, rfl, hI2, ⟨w.heap.size, .inr ⟨rfl, rfl⟩, rfl⟩, fun h u k => RepV.mono (G := G) (G' := Eng.pushR G st.length w.heap.size) key.2 (fun _ _ h => .inl h) (fun _ _ h => h) k, fun e => (by rw [hq] at e; cases e), key.2⟩
      · cases hz
    · cases hz
  · cases hk

/-- Elements in a row, told cell by cell. -/
def flat (m : Nat) (c : Nat → List Value) : List Value := (List.range m).flatMap c
theorem flat_succ (m : Nat) (c : Nat → List Value) : flat (m + 1) c = flat m c ++ c m := by simp [flat, List.range_succ]
theorem flat_length {m sz : Nat} {c : Nat → List Value} (h : ∀ i, i < m → (c i).length = sz) : (flat m c).length = m * sz := by
  induction m with
  | zero => simp [flat]
  | succ m ih => rw [flat_succ, List.length_append, ih (fun i hi => h i (by omega)), h m (by omega), Nat.succ_mul]
theorem flat_get {m sz : Nat} {c : Nat → List Value} (h : ∀ i, i < m → (c i).length = sz) {i j : Nat} (hi : i < m) (hj : j < sz) : (flat m c)[i * sz + j]? = (c i)[j]? := by
  induction m with
  | zero => omega
  | succ m ih =>
    have hl := flat_length (m := m) (sz := sz) (c := c) (fun i hi => h i (by omega))
    rw [flat_succ, List.getElem?_append, hl]
    by_cases him : i < m
    · have : (i + 1) * sz ≤ m * sz := Nat.mul_le_mul_right _ him
      rw [Nat.succ_mul] at this
      rw [if_pos (by omega)]
      exact ih (fun i hi => h i (by omega)) him
    · have : i = m := by omega
      subst this
      rw [if_neg (by omega)]
      congr 1
      omega
theorem flat_mem {m : Nat} {c : Nat → List Value} {u : Value} (h : u ∈ flat m c) : ∃ i, i < m ∧ u ∈ c i := by
  simp only [flat, List.mem_flatMap, List.mem_range] at h
  exact h

/-- append on a row of one's own: where the new row lies, and what else stays. -/
theorem run_append_eng (base : Nat) (t ty e : TypeId) (i : TypeInfo) (z : Value) (ht : P.underlying t = some (.slice e)) (hi : P.info? e = some i) (hz : i.zero = some z) (hzs : z.cells.size = i.size) (hby : 0 < i.bytes)
    (v : Value) (n : Nat) (xs : List Value) (hown : w.ownsRow base e i.size v n xs)
    (A : Option Addr) (m c : Nat) (news : List Value) (hl : news.length = m * i.size) (hA : 0 < m → A ≠ none) (hnews : ∀ ad, A = some ad → ∀ j u, news[j]? = some u → w.cell? (ad.add j) = some u) (h1 : ∀ u ∈ news, u.oneCell' = true)
    (hbytes : (n + m) * i.bytes ≤ 140737488355328) (hbase : base ≤ w.heap.size) :
    ∃ v' w', (Builtin.append_ #[t, t] ty #[v, .slice A m c]).run P w = .ok v' w' ∧ w'.ownsRow base e i.size v' (n + m) (xs ++ news) ∧
      ((v'.ownBlock = v.ownBlock ∧ w.grownBy w' v.ownBlock) ∨ (v'.ownBlock = some w.heap.size ∧ w.grownBy w' none)) := by
  have h63 : n + m ≤ maxLen := by
    have := Nat.le_mul_of_pos_right (n + m) hby
    simp only [maxLen]; omega
  cases A with
  | none =>
    have hm : m = 0 := by
      rcases Nat.eq_zero_or_pos m with h | h
      · exact h
      · exact (hA h rfl).elim
    subst hm
    have hn : news = [] := List.eq_nil_of_length_eq_zero (by simpa using hl)
    subst hn
    refine ⟨v, w, ?_, by simpa using hown, .inl ⟨rfl, World.grownBy.refl w _⟩⟩
    rcases hown.2 with ⟨rfl, rfl⟩ | ⟨g, cap, cur, rfl, _, _, hnc, _⟩
    · simp [Builtin.append_, run_underlying ht, sizeOf, typeInfo, hi, Builtin.lenOf, Builtin.firstCells]
    · simp [Builtin.append_, run_underlying ht, sizeOf, typeInfo, hi, Builtin.lenOf, Builtin.firstCells, hnc, storeCells]
  | some ad =>
    have hnews' := hnews ad rfl
    have hsmall : n + m ≤ 9223372036854775807 := by simp only [maxLen] at h63; omega
    have hlen : (xs ++ news).length = (n + m) * i.size := by rw [List.length_append, hown.1, hl, Nat.add_mul]
    have grown : ∀ (old : Nat), old < n + m →
        (w.drew.alloc (.cells (xs.toArray ++ news.toArray ++ Builtin.zeroCells z.cells (grownCap w (n + m) old e - (n + m))) e)).ownsRow base e i.size
          (.slice (some ⟨w.heap.size, 0, none⟩) (n + m) (grownCap w (n + m) old e)) (n + m) (xs ++ news) ∧
        w.grownBy (w.drew.alloc (.cells (xs.toArray ++ news.toArray ++ Builtin.zeroCells z.cells (grownCap w (n + m) old e - (n + m))) e)) none := by
      intro old _
      have hge := grownCap_ge w (n + m) old e
      have hcm : grownCap w (n + m) old e ≤ maxLen := grownCap_le_maxLen w (n + m) old e h63
      refine ⟨⟨hlen, .inr ⟨w.heap.size, _, _, rfl, hbase, heap_alloc_new w.drew _, hge, hcm, ?_, ?_⟩⟩, ⟨rfl, rfl, rfl, by simp, fun k hk _ => Below.heap_alloc w.drew _ k hk⟩⟩
      · simp only [Array.size_append, List.size_toArray, size_zeroCells, hzs, hown.1, hl, ← Nat.add_mul]
        congr 1
        omega
      · simp only [Array.toList_append, List.append_assoc]
        rw [← List.append_assoc, ← hlen]
        exact List.take_left
    rcases hown.2 with ⟨rfl, rfl⟩ | ⟨g, cap, cur, rfl, hbg, hg, hnc, hcm, hcs, htake⟩
    · have hx : xs = [] := List.eq_nil_of_length_eq_zero (by simpa using hown.1)
      subst hx
      by_cases hm : m = 0
      · subst hm
        have hn : news = [] := List.eq_nil_of_length_eq_zero (by simpa using hl)
        subst hn
        refine ⟨.slice none 0 0, w, ?_, World.ownsRow_nil w base e i.size, .inl ⟨rfl, World.grownBy.refl w _⟩⟩
        simp [Builtin.append_, run_underlying ht, sizeOf, typeInfo, hi, Builtin.lenOf, Builtin.firstCells, loadCells, loadCellsFrom]
      · have hr := run_append_nil (P := P) w t ty e i z ht hi hz ad m c news hl hnews' (by omega) (by omega) (by have hb := hbytes; simp only [Nat.zero_add] at hb; omega)
        have hgr := grown 0 (by omega)
        simp only [Nat.zero_add, List.nil_append, Array.empty_append] at hgr ⊢
        exact ⟨_, _, hr, hgr.1, .inr ⟨rfl, hgr.2⟩⟩
    · by_cases hroom : n + m ≤ cap
      · have hfit : n * i.size + news.length ≤ cur.size := by rw [hl, hcs, ← Nat.add_mul]; exact Nat.mul_le_mul_right _ hroom
        have hr := run_append_room (P := P) w t ty e i ht hi g n cap cur hg ad m c news hl hnews' h1 hroom hfit
        refine ⟨_, _, hr, ⟨hlen, .inr ⟨g, cap, _, rfl, hbg, setRow_heap w g cur _ e _ hg, hroom, hcm, ?_, ?_⟩⟩, .inl ⟨rfl, ⟨rfl, rfl, rfl, by simp, fun k _ hk => setRow_other w g k _ (fun e => hk (by simp [Value.ownBlock, e]))⟩⟩⟩
        · simp only [List.size_toArray, List.length_append, List.length_take, List.length_drop, Array.length_toList]
          omega
        · rw [htake, ← hlen]
          exact List.take_left
      · have holds : ∀ j u, xs[j]? = some u → w.cell? ((⟨g, 0, none⟩ : Addr).add j) = some u := hown.cells (g := g) rfl
        have hr := run_append_grow (P := P) w t ty e i z ht hi hz ⟨g, 0, none⟩ n cap xs hown.1 holds ad m c news hl hnews' (by omega) (by omega) (growslice_fits (by omega) hbytes)
        have hgr := grown cap (by omega)
        exact ⟨_, _, hr, hgr.1, .inr ⟨rfl, hgr.2⟩⟩
end
end Go.Eng
end

section
namespace Go.Eng
open Go.RowKit

section
variable {β : Type} {P : Program} {w0 : World} {S0 : Nat → Nat → Prop} {q : Bool} {G : Gh} {st : List Slot} {w : World} {K : HV → (HV → HV) → List Slot → Option β} {r : β} {o : Oper} {a : Act} {Q : Exit → Act → World → Prop}

def appG (G : Gh) (t : Nat) (v' : Value) (n : Nat) : Gh := { S := fun b o => G.S b o ∨ (v'.ownBlock = some b ∧ o < n), R := G.R, T := fun t' u => if t' = t then u = v' else G.T t' u }

theorem own_block_slice {base e size n : Nat} {v : Value} {xs : List Value} (h : w.ownsRow base e size v n xs) : ∃ A c, v = .slice A n c ∧ n ≤ c ∧ (∀ g, v.ownBlock = some g → A = some ⟨g, 0, none⟩ ∧ base ≤ g ∧ g < w.heap.size) ∧ (v.ownBlock = none → n = 0) := by
  rcases h.2 with ⟨rfl, rfl⟩ | ⟨g, cap, cur, rfl, hb, hh, hn, _⟩
  · exact ⟨none, 0, rfl, Nat.le_refl _, fun g hg => by simp [Value.ownBlock] at hg, fun _ => rfl⟩
  · refine ⟨_, cap, rfl, hn, fun g' hg => ?_, fun hg => by simp [Value.ownBlock] at hg⟩
    have : g = g' := by simpa [Value.ownBlock] using hg
    subst this
    exact ⟨rfl, hb, (Array.getElem?_eq_some_iff.1 hh).1⟩

theorem own_cell {base e size n : Nat} {v : Value} {xs : List Value} (h : w.ownsRow base e size v n xs) {g : Nat} (hg : v.ownBlock = some g) (j : Nat) (hj : j < n * size) : w.cell? ⟨g, j, none⟩ = xs[j]? := by
  obtain ⟨A, c, rfl, _, hA, _⟩ := own_block_slice h
  obtain ⟨rfl, _⟩ := hA g hg
  exact World.ownsRow.cellAt h j hj

theorem Inv.append (hI : Inv P w0 S0 G st w) {t el : Nat} {v : Value} {n size : Nat} {xs : List Value} (hslot : st[t]? = some (.tok el)) (hT : G.T t v) (ho : w.ownsRow w0.heap.size el size v n xs) (hf : ∀ g, v.ownBlock = some g → ∀ o, G.S g o → o < n * size)
    (hinfo : (P.info? el).map (·.size) = some size) {w' : World} {v' : Value} {n' : Nat} {xs' : List Value} (ho' : w'.ownsRow w0.heap.size el size v' n' xs') (hpre : ∀ o, o < n * size → xs'[o]? = xs[o]?) (hn : n ≤ n')
    (hc : (v'.ownBlock = v.ownBlock ∧ w.grownBy w' v.ownBlock) ∨ (v'.ownBlock = some w.heap.size ∧ w.grownBy w' none)) :
    Inv P w0 S0 (appG G t v' (n' * size)) st w' ∧ Gro G.S w (appG G t v' (n' * size)).S w' := by
  have hnn : n * size ≤ n' * size := Nat.mul_le_mul_right _ hn
  have hgr : w.grownBy w' v.ownBlock := by
    rcases hc with h | h
    · exact h.2
    · exact ⟨h.2.os, h.2.tape, h.2.output, h.2.size, fun k hk _ => h.2.block k hk (by simp)⟩
  have hnewB : ∀ g, v'.ownBlock = some g → v.ownBlock = some g ∨ w.heap.size ≤ g := fun g hg => by
    rcases hc with h | h
    · exact .inl (h.1 ▸ hg)
    · rw [h.1] at hg; injection hg with hg; exact .inr (by omega)
  have g : Gro G.S w (appG G t v' (n' * size)).S w' := by
    refine ⟨fun _ _ h => .inl h, fun b o hs => ?_⟩
    by_cases hb : v.ownBlock = some b
    · rcases hc with h | h
      · rw [own_cell ho' (h.1.trans hb) o (Nat.lt_of_lt_of_le (hf b hb o hs) hnn), own_cell ho hb o (hf b hb o hs), hpre o (hf b hb o hs)]
      · exact cell_of_block (h.2.block b (hI.slt b o hs) (by simp)) o
    · exact cell_of_block (hgr.block b (hI.slt b o hs) (fun e => hb e.symm)) o
  have hsz := hgr.size
  have hbs := hI.below.size
  refine ⟨{ below := ?_, slots := fun id s hs => ?_, rlt := hI.rlt, tlt := fun t' u h => ?_, rfun := hI.rfun, tfun := fun t' u u' h h' => ?_, rinj := hI.rinj, tinj := fun t1 t2 u1 u2 b h1 h2 hb1 hb2 => ?_, rt := fun r' t' u b h h' hb => ?_, rnew := fun r' b h => ?_, tnew := fun t' u b h hb => ?_, s0 := fun b o h => .inl (hI.s0 b o h), snew := fun b o h => ?_, slt := fun b o h => ?_ }, g⟩
  · refine hI.below.grown hgr hbs (fun k hk => ?_)
    exact (hI.tnew t v k hT hk).1
  · have hold := hI.slots id s hs
    cases s with
    | var m cs =>
      obtain ⟨b, ty, cells, hr, hbb, hh, hcs, hm, hm'⟩ := hold
      have hlt := (hI.rnew _ _ hr).2
      have hne : v.ownBlock ≠ some b := fun e => hI.rt _ _ _ _ hr hT e
      refine ⟨b, ty, cells, hr, hbb, (hgr.block b hlt (fun e => hne e.symm)).trans hh, hcs.mono g, fun e o hs' => ?_, fun e o hlt => .inl (hm' e o hlt)⟩
      rcases hs' with hs' | ⟨hs', _⟩
      · exact hm e o hs'
      · rcases hnewB b hs' with h | h
        · exact hne h
        · omega
    | row m sz k f =>
      obtain ⟨b, ty, cells, hr, hbb, hh, hcs, hcc, hm, hm'⟩ := hold
      have hlt := (hI.rnew _ _ hr).2
      have hne : v.ownBlock ≠ some b := fun e => hI.rt _ _ _ _ hr hT e
      refine ⟨b, ty, cells, hr, hbb, (hgr.block b hlt (fun e => hne e.symm)).trans hh, hcs, fun i hi => (hcc i hi).mono g, fun e o hs' => ?_, fun e o hlt => .inl (hm' e o hlt)⟩
      rcases hs' with hs' | ⟨hs', _⟩
      · exact hm e o hs'
      · rcases hnewB b hs' with h | h
        · exact hne h
        · omega
    | tok e =>
      by_cases hid : id = t
      · subst hid
        rw [hs] at hslot
        injection hslot with hslot
        injection hslot with hslot
        subst hslot
        refine ⟨v', n', size, xs', by simp [appG], ho', hinfo, fun b hb o hs' => ?_⟩
        rcases hs' with hs' | ⟨_, hs'⟩
        · rcases hnewB b hb with h | h
          · exact Nat.lt_of_lt_of_le (hf b h o hs') hnn
          · have := hI.slt _ _ hs'; omega
        · exact hs'
      · obtain ⟨u, k, size', ys, ht, hou, hi, hfu⟩ := hold
        have hne : u.ownBlock = none ∨ u.ownBlock ≠ v.ownBlock := by
          cases hub : u.ownBlock with
          | none => exact .inl rfl
          | some b => exact .inr (fun e => hid (hI.tinj id t u v b ht hT hub e.symm))
        refine ⟨u, k, size', ys, by simp [appG, hid, ht], hou.kept hgr hne, hi, fun b hb o hs' => ?_⟩
        rcases hs' with hs' | ⟨hs', _⟩
        · exact hfu b hb o hs'
        · rcases hnewB b hs' with h | h
          · exact (hid (hI.tinj id t u v b ht hT hb h)).elim
          · have := (hI.tnew _ _ _ ht hb).2; omega
  · simp only [appG] at h
    split at h
    · rename_i e; subst e; exact hI.tlt _ _ hT
    · exact hI.tlt _ _ h
  · simp only [appG] at h h'
    split at h
    · rename_i e; rw [if_pos e] at h'; rw [h, h']
    · rename_i e; rw [if_neg e] at h'; exact hI.tfun _ _ _ h h'
  · simp only [appG] at h1 h2
    by_cases e1 : t1 = t
    · by_cases e2 : t2 = t
      · rw [e1, e2]
      · rw [if_pos e1] at h1
        rw [if_neg e2] at h2
        subst h1
        rcases hnewB b hb1 with h | h
        · exact e1.trans (hI.tinj t t2 v u2 b hT h2 h hb2)
        · have := (hI.tnew _ _ _ h2 hb2).2; omega
    · by_cases e2 : t2 = t
      · rw [if_neg e1] at h1
        rw [if_pos e2] at h2
        subst h2
        rcases hnewB b hb2 with h | h
        · exact (hI.tinj t1 t u1 v b h1 hT hb1 h).trans e2.symm
        · have := (hI.tnew _ _ _ h1 hb1).2; omega
      · rw [if_neg e1] at h1
        rw [if_neg e2] at h2
        exact hI.tinj _ _ _ _ _ h1 h2 hb1 hb2
  · simp only [appG] at h'
    split at h'
    · subst h'
      rcases hnewB b hb with h2 | h2
      · exact hI.rt _ _ _ _ h hT h2
      · have := (hI.rnew _ _ h).2; omega
    · exact hI.rt _ _ _ _ h h' hb
  · have := hI.rnew _ _ h; omega
  · simp only [appG] at h
    split at h
    · subst h
      obtain ⟨_, _, _, _, hA, _⟩ := own_block_slice ho'
      exact (hA b hb).2
    · have := hI.tnew _ _ _ h hb; omega
  · rcases h with h | ⟨h, _⟩
    · exact hI.snew b o h
    · obtain ⟨_, _, _, _, hA, _⟩ := own_block_slice ho'
      exact .inr (hA b h).2.1
  · rcases h with h | ⟨h, _⟩
    · have := hI.slt b o h; omega
    · obtain ⟨_, _, _, _, hA, _⟩ := own_block_slice ho'
      exact (hA b h).2.2

theorem RepC.lst_inv {S w sz n f v} (h : RepC S w (.lst sz n f) v) : ∃ (A : Option Addr) (c : Nat) (cells : Nat → List Value), v = .slice A n c ∧ (∀ i, i < n → RepCs S w (f i) (cells i)) ∧ (∀ i, i < n → (cells i).length = sz) ∧ (∀ i, i < n → AtS S w A (i * sz) (cells i)) ∧ n ≤ c := by
  cases h with | lst _ _ _ A c cells h hl ha hc => exact ⟨A, c, cells, rfl, h, hl, ha, hc⟩

/-- A list that is written out in an owned row. -/
theorem RepC.of_own {base e sz n : Nat} {v : Value} {S : Nat → Nat → Prop} {f : Nat → List HV} {cells : Nat → List Value} (ho : w.ownsRow base e sz v n (flat n cells)) (hr : ∀ i, i < n → RepCs S w (f i) (cells i)) (hl : ∀ i, i < n → (cells i).length = sz)
    (hS : ∀ g, v.ownBlock = some g → ∀ o, o < n * sz → S g o) : RepC S w (.lst sz n f) v := by
  obtain ⟨A, c, rfl, hnc, hA, hN⟩ := own_block_slice ho
  refine .lst sz n f A c cells hr hl (fun i hi => ?_) hnc
  intro j u hj
  have hjl : j < sz := by have := (List.getElem?_eq_some_iff.1 hj).1; rw [hl i hi] at this; exact this
  have hlt : i * sz + j < n * sz := by
    have : (i + 1) * sz ≤ n * sz := Nat.mul_le_mul_right _ hi
    rw [Nat.succ_mul] at this; omega
  cases hb : (Value.slice A n c).ownBlock with
  | none => have := hN hb; omega
  | some g =>
    obtain ⟨rfl, _, _⟩ := hA g hb
    refine ⟨_, rfl, ?_, ?_⟩
    · rw [addr_add, Nat.zero_add, own_cell ho hb _ hlt, flat_get hl hi hjl, hj]
    · simpa using hS g hb _ hlt

theorem listOf_inv {S : Nat → Nat → Prop} {sz : Nat} {z : List HV} {x : HV} {v : Value} {G : Gh} {K : Nat → (Nat → List HV) → Option β} {r : β} (hv : RepV G w x v) (hS : G.S = S) (hk : listOf sz z x K = some r) :
    ∃ (m : Nat) (f : Nat → List HV) (A : Option Addr) (c : Nat) (cells : Nat → List Value), K m f = some r ∧ v = .slice A m c ∧ (∀ i, i < m → RepCs S w (f i) (cells i)) ∧ (∀ i, i < m → (cells i).length = sz) ∧ (∀ i, i < m → AtS S w A (i * sz) (cells i)) := by
  subst hS
  unfold listOf at hk
  split at hk
  · rename_i s n f
    obtain ⟨hs, hk2⟩ := br_none hk
    have hs : s = sz := by simpa using hs
    subst hs
    obtain ⟨A, c, cells, h1, h2, h3, h4, _⟩ := RepC.lst_inv hv
    exact ⟨_, _, A, c, cells, hk2, h1, h2, h3, h4⟩
  · rename_i t s n f
    obtain ⟨hs, hk2⟩ := br_none hk
    have hs : s = sz := by simpa using hs
    subst hs
    obtain ⟨A, c, cells, h1, h2, h3, h4, _⟩ := RepC.lst_inv hv.2
    exact ⟨_, _, A, c, cells, hk2, h1, h2, h3, h4⟩
  · cases hv
    exact ⟨_, _, none, 0, fun _ => [], hk, rfl, fun i hi => by omega, fun i hi => by omega, fun i hi => by omega⟩
  · cases hk

theorem elemT_inv {t el sz by_ : Nat} {z : List HV} (h : elemT P t = some (el, sz, z, by_)) : ∃ i v, P.underlying t = some (.slice el) ∧ P.info? el = some i ∧ i.zero = some v ∧ zeroV P el v = some z ∧ i.size = sz ∧ i.bytes = by_ ∧ z.length = sz ∧ 0 < sz ∧ 0 < by_ := by
  unfold elemT at h
  split at h
  · rename_i e he
    split at h
    · rename_i i hi
      split at h
      · rename_i v hv
        split at h
        · rename_i z' hz
          split at h
          · rename_i hc
            injection h with h
            simp only [Prod.mk.injEq] at h
            obtain ⟨rfl, rfl, rfl, rfl⟩ := h
            exact ⟨i, v, he, hi, hv, hz, rfl, rfl, hc.1, hc.2.1, hc.2.2⟩
          · cases h
        · cases h
      · cases h
    · cases h
  · cases h
theorem elemT_zero {el sz : Nat} {z : List HV} {v : Value} (hz : zeroV P el v = some z) (hl : z.length = sz) : v.cells.size = sz := by
  have := (zeroV_rep (S := fun _ _ => False) (w := default) hz).length
  rw [Array.length_toList] at this
  omega

/-- What 'append' does to a row of one's own. -/
theorem append_core {ts el sz by_ t n m : Nat} {z : List HV} {f g : Nat → List HV} {vs vx : Value} {A : Option Addr} {c : Nat} {cells : Nat → List Value} (he : elemT P ts = some (el, sz, z, by_)) (hI : Inv P w0 S0 G st w) (hslot : st[t]? = some (.tok el)) (hT : G.T t vs) (hf : RepC G.S w (.lst sz n f) vs)
    (hx : vx = .slice A m c) (h2 : ∀ i, i < m → RepCs G.S w (g i) (cells i)) (h3 : ∀ i, i < m → (cells i).length = sz) (h4 : ∀ i, i < m → AtS G.S w A (i * sz) (cells i)) (hb : (n + m) * by_ ≤ 140737488355328) (ty : TypeId) :
    ∃ v' w' G', (Builtin.append_ #[ts, ts] ty #[vs, vx]).run P w = .ok v' w' ∧ Inv P w0 S0 G' st w' ∧ Gro G.S w G'.S w' ∧ G'.R = G.R ∧ (∀ t' u, t' ≠ t → G.T t' u → G'.T t' u) ∧ G'.T t v' ∧ RepC G'.S w' (.lst sz (n + m) (appF n f g)) v' := by
  obtain ⟨i, vz, hu, hi, hz, hzc, rfl, rfl, hzl, hs0, hb0⟩ := elemT_inv he
  obtain ⟨u, k, size, xs, hT', ho, hinfo, hfr⟩ := hI.slots _ _ hslot
  obtain rfl := hI.tfun _ _ _ hT hT'
  rw [hi] at hinfo
  simp only [Option.map_some, Option.some.injEq] at hinfo
  subst hinfo
  obtain ⟨A1, c1, cx, hvs, hx2, hx3, hx4, _⟩ := RepC.lst_inv hf
  have hkn : k = n := by
    obtain ⟨A2, c2, h, _⟩ := own_block_slice ho
    rw [hvs] at h
    injection h with _ h _
    omega
  subst hkn
  have hxs : xs = flat k cx := by
    apply List.ext_getElem?
    intro p
    by_cases hp : p < k * i.size
    · have hq : p / i.size < k := by rw [Nat.div_lt_iff_lt_mul hs0]; exact hp
      have hr := Nat.mod_lt p hs0
      have hpe : p / i.size * i.size + p % i.size = p := by rw [Nat.mul_comm]; exact Nat.div_add_mod p i.size
      have hfl := flat_get hx3 hq hr
      rw [hpe] at hfl
      rw [hfl]
      have hlen := hx3 _ hq
      have hsome : (cx (p / i.size))[p % i.size]? = some ((cx (p / i.size))[p % i.size]'(by omega)) := List.getElem?_eq_getElem (by omega)
      obtain ⟨ad, hA, hcell, _⟩ := hx4 _ hq _ _ hsome
      rw [hpe] at hcell
      have hob : vs.ownBlock = some ad.block := by rw [hvs, hA]; rfl
      obtain ⟨A2, c2, h, _, hA2, _⟩ := own_block_slice ho
      obtain ⟨e1, _⟩ := hA2 _ hob
      rw [hvs] at h
      injection h with h _ _
      rw [hA] at h
      rw [← h] at e1
      injection e1 with e1
      rw [e1, addr_add, Nat.zero_add] at hcell
      rw [← own_cell ho hob p hp, hcell, hsome]
    · rw [List.getElem?_eq_none (by rw [ho.1]; omega), List.getElem?_eq_none (by rw [flat_length hx3]; omega)]
  subst hxs
  have hnl := flat_length h3
  have hcellsY : ∀ ad, A = some ad → ∀ j u, (flat m cells)[j]? = some u → w.cell? (ad.add j) = some u := by
    intro ad hA j u hj
    have hjl : j < m * i.size := by have := (List.getElem?_eq_some_iff.1 hj).1; omega
    have hq : j / i.size < m := by rw [Nat.div_lt_iff_lt_mul hs0]; exact hjl
    have hr := Nat.mod_lt j hs0
    have hpe : j / i.size * i.size + j % i.size = j := by rw [Nat.mul_comm]; exact Nat.div_add_mod j i.size
    have hfl := flat_get h3 hq hr
    rw [hpe, hj] at hfl
    obtain ⟨ad', hA', hcell, _⟩ := h4 _ hq _ _ hfl.symm
    rw [hA] at hA'
    injection hA' with hA'
    subst hA'
    rwa [hpe] at hcell
  have hAne : 0 < m → A ≠ none := fun hm e => by
    have hlen := h3 0 hm
    obtain ⟨ad, hA, _⟩ := h4 0 hm 0 _ (List.getElem?_eq_getElem (by omega))
    rw [e] at hA
    cases hA
  obtain ⟨v', w', hrun, hown', hcase⟩ := run_append_eng (P := P) (w := w) w0.heap.size ts ty el i vz hu hi hz (elemT_zero hzc hzl) hb0 vs k (flat k cx) ho A m c (flat m cells) hnl hAne hcellsY
    (fun u hu => by obtain ⟨i', hi', hu'⟩ := flat_mem hu; exact (h2 i' hi').one u hu') hb hI.below.size
  have hfull : flat k cx ++ flat m cells = flat (k + m) (fun p => if p < k then cx p else cells (p - k)) := by
    apply List.ext_getElem?
    intro p
    have hl3 : ∀ q, q < k + m → ((fun p => if p < k then cx p else cells (p - k)) q).length = i.size := fun q hq => by
      simp only
      split
      · rename_i h; exact hx3 q h
      · exact h3 _ (by omega)
    have hsum : (k + m) * i.size = k * i.size + m * i.size := Nat.add_mul _ _ _
    by_cases hp : p < (k + m) * i.size
    · have hq : p / i.size < k + m := by rw [Nat.div_lt_iff_lt_mul hs0]; exact hp
      have hr := Nat.mod_lt p hs0
      have hpe : p / i.size * i.size + p % i.size = p := by rw [Nat.mul_comm]; exact Nat.div_add_mod p i.size
      have hfl := flat_get hl3 hq hr
      rw [hpe] at hfl
      rw [hfl, List.getElem?_append, flat_length hx3]
      by_cases hpk : p < k * i.size
      · have hqk : p / i.size < k := by rw [Nat.div_lt_iff_lt_mul hs0]; exact hpk
        have hf2 := flat_get hx3 hqk hr
        rw [hpe] at hf2
        rw [if_pos hpk, hf2]
        simp only [hqk, if_true]
      · have hqk : ¬ p / i.size < k := by rw [Nat.div_lt_iff_lt_mul hs0]; exact hpk
        have hq2 : p / i.size - k < m := by omega
        have hf2 := flat_get h3 hq2 hr
        have hkm : k * i.size ≤ p / i.size * i.size := Nat.mul_le_mul_right _ (by omega)
        have hpe2 : (p / i.size - k) * i.size + p % i.size = p - k * i.size := by rw [Nat.sub_mul]; omega
        rw [hpe2] at hf2
        rw [if_neg hpk, hf2]
        simp only [hqk, if_false]
    · rw [List.getElem?_eq_none (by rw [List.length_append, flat_length hx3, flat_length h3]; omega), List.getElem?_eq_none (by rw [flat_length hl3]; omega)]
  have key := hI.append hslot hT ho hfr (by rw [hi]; rfl) hown' (fun p hp => by rw [List.getElem?_append, if_pos (by rw [flat_length hx3]; exact hp)]) (Nat.le_add_right _ _) hcase
  refine ⟨v', w', _, by rw [hx]; exact hrun, key.1, key.2, rfl, fun t' u' hne h => by simp [appG, hne, h], by simp [appG], ?_⟩
  rw [hfull] at hown'
  refine RepC.of_own hown' (fun p hp => ?_) (fun p hp => ?_) (fun b hb p hp => .inr ⟨hb, hp⟩)
  · unfold appF
    by_cases hpk : p < k
    · simp only [hpk, decide_true, cond_true, if_true]
      exact (hx2 p hpk).mono key.2
    · simp only [hpk, decide_false, cond_false, if_false]
      exact (h2 _ (by omega)).mono key.2
  · split
    · rename_i h; exact hx3 p h
    · exact h3 _ (by omega)
end
end Go.Eng
end
