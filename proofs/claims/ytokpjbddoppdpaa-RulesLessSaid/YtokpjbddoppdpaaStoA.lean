/- A second interpreter over plain values, for code that writes memory: the interpreter. -/
import Derived.Test.YtokpjbddoppdpaaEngC
import Derived.Maps.OwnSet
import Derived.Maps.OwnOps
set_option linter.unusedVariables false
set_option linter.unusedSimpArgs false
set_option linter.unusedSectionVars false
section
namespace Go.Eng
variable {β : Type}

/-- What a call sees of memory: cells, rows of elements, maps; a place that is kept free; what is no more. -/
inductive Ob : Type where
  | cel (cs : List HV)
  | row (m : Bool) (own : Option Nat) (sz n : Nat) (f : Nat → List HV)
  | map (k e : Nat) (g : ByteArray → Int) (cnt : Nat)
  | free
  | gone
  deriving Inhabited
abbrev Wr := List (Nat × Ob)

/-- No reference to what is written: fit for the first interpreter. -/
def cloD : Nat → HV → Bool
  | 0, _ => false
  | d + 1, h => match h with
    | .undef => false
    | .own .. => false
    | .arr .. => false
    | .var .. => false
    | .elt .. => false
    | .mp _ => false
    | .ow _ => false
    | .nl .. => false
    | .tup _ => false
    | .fn _ cs => cs.all (cloD d)
    | .agg cs => cs.all (cloD d)
    | _ => true
def cloT : HV → Bool
  | .undef => true
  | .tup vs => vs.all (cloD 4)
  | h => cloD 4 h

/-- The references in a value. -/
def refsD : Nat → HV → List Nat
  | 0, _ => []
  | d + 1, h => match h with
    | .arr r _ _ _ => [r]
    | .var r _ => [r]
    | .elt r _ _ _ => [r]
    | .mp r => [r]
    | .ow r => [r]
    | .fn _ cs => cs.flatMap (refsD d)
    | .agg cs => cs.flatMap (refsD d)
    | .tup cs => cs.flatMap (refsD d)
    | _ => []
/-- What is reached, in order. -/
def reachL (st : List Ob) : Nat → List Nat → List Nat → List Nat
  | 0, _, seen => seen
  | _ + 1, [], seen => seen
  | k + 1, r :: t, seen => cond (seen.elem r) (reachL st k t seen) (match st[r]? with
    | some (.cel cs) => reachL st k (t ++ cs.flatMap (refsD 4)) (seen ++ [r])
    | _ => reachL st k t (seen ++ [r]))
def liveO : Option Ob → Bool
  | some (.cel _) => true
  | some (.row ..) => true
  | some (.map ..) => true
  | _ => false
def posOf : List Nat → Nat → Option Nat
  | [], _ => none
  | x :: t, r => cond (x == r) (some 0) (match posOf t r with | some k => some (k + 1) | none => none)
def nodupB : List Nat → Bool
  | [] => true
  | x :: t => !t.elem x && nodupB t
/-- References under other names; those without a name are let go. -/
def ren (ρ : Nat → Option Nat) : Nat → HV → HV
  | 0, _ => .undef
  | d + 1, h => match h with
    | .arr r sz lo n => match ρ r with | some r' => .arr r' sz lo n | none => .undef
    | .var r off => match ρ r with | some r' => .var r' off | none => .undef
    | .elt r sz i off => match ρ r with | some r' => .elt r' sz i off | none => .undef
    | .mp r => match ρ r with | some r' => .mp r' | none => .undef
    | .ow r => match ρ r with | some r' => .ow r' | none => .undef
    | .fn f cs => .fn f (cs.map (ren ρ d))
    | .agg cs => .agg (cs.map (ren ρ d))
    | .tup cs => .tup (cs.map (ren ρ d))
    | h => h
def renO (ρ : Nat → Option Nat) : Ob → Ob
  | .cel cs => .cel (cs.map (ren ρ 4))
  | o => o

def setO : List Ob → Nat → Ob → List Ob
  | [], _, o => [o]
  | _ :: t, 0, o => o :: t
  | x :: t, i + 1, o => x :: setO t i o
def appl : List Ob → Wr → List Ob
  | st, [] => st
  | st, (i, o) :: W => appl (setO st i o) W

/-- A list told element by element. -/
def tellK {α γ : Type} (f : α → γ) : List α → (List γ → Option β) → Option β
  | [], K => K []
  | h :: t, K => tellK f t fun t' => K (f h :: t')

/-- A value that is kept for good: the rows in it are written no more. -/
def closeKs (F : HV → (HV → Wr → Option β) → Option β) : List HV → (List HV → Wr → Option β) → Option β
  | [], K => K [] []
  | h :: t, K => F h fun v W => closeKs F t fun vs W' => K (v :: vs) (W ++ W')
def closeK (st : List Ob) : Nat → HV → (HV → Wr → Option β) → Option β
  | 0, _, _ => none
  | d + 1, h, K => match h with
    | .nl sz z => K (.lst sz 0 (fun _ => z)) []
    | .ow r => match st[r]? with
      | some (.row _ (some own) sz n f) => K (.lst sz n f) [(r, .row false (some own) sz n f)]
      | _ => none
    | .arr r sz lo n => match st[r]? with
      | some (.row _ own sz' n' f) => K (.lst sz n (fun i => f (lo + i))) [(r, .row false own sz' n' f)]
      | _ => none
    | .fn f cs => closeKs (closeK st d) cs fun vs W => K (.fn f vs) W
    | .agg cs => closeKs (closeK st d) cs fun vs W => K (.agg vs) W
    | .undef => none
    | .own .. => none
    | .var .. => none
    | .elt .. => none
    | .mp _ => none
    | .tup _ => none
    | h => K h []
/-- A value as it is now, to be looked at. -/
def snapKs (F : HV → (HV → List Nat → Option β) → Option β) : List HV → (List HV → List Nat → Option β) → Option β
  | [], K => K [] []
  | h :: t, K => F h fun v rd => snapKs F t fun vs rd' => K (v :: vs) (rd ++ rd')
def snapK (st : List Ob) : Nat → HV → (HV → List Nat → Option β) → Option β
  | 0, _, _ => none
  | d + 1, h, K => match h with
    | .nl sz z => K (.lst sz 0 (fun _ => z)) []
    | .ow r => match st[r]? with
      | some (.row _ (some _) sz n f) => K (.lst sz n f) [r]
      | _ => none
    | .arr r sz lo n => match st[r]? with
      | some (.row _ _ _ _ f) => K (.lst sz n (fun i => f (lo + i))) [r]
      | _ => none
    | .elt r _ i off => match st[r]? with
      | some (.row _ _ _ _ f) => K (.ptr (f i) off) [r]
      | _ => none
    | .var r off => match st[r]? with
      | some (.cel cs) => snapKs (snapK st d) cs fun vs rd => K (.ptr vs off) (r :: rd)
      | _ => none
    | .mp _ => K .undef []
    | .fn f cs => snapKs (snapK st d) cs fun vs rd => K (.fn f vs) rd
    | .agg cs => snapKs (snapK st d) cs fun vs rd => K (.agg vs) rd
    | .undef => none
    | .own .. => none
    | .tup _ => none
    | h => K h []

def bndX (x : Option (HV × List Ob)) (f : HV → List Ob → Option β) : Option β := match x with | some (r, so) => f r so | none => none
theorem bndX_eq {x : Option (HV × List Ob)} {f : HV → List Ob → Option β} {r : β} (h : bndX x f = some r) : ∃ v so, x = some (v, so) ∧ f v so = some r := by
  cases x with
  | none => cases h
  | some p => exact ⟨p.1, p.2, rfl, h⟩
theorem bndX_some (v : HV) (so : List Ob) (f : HV → List Ob → Option β) : bndX (some (v, so)) f = f v so := rfl
theorem bndX_none (f : HV → List Ob → Option β) : bndX none f = none := by unfold bndX; rfl

/-- What a call that keeps all shapes leaves. -/
def rowF (o : Option Ob) : Nat → List HV := match o with | some (.row _ _ _ _ f) => f | _ => fun _ => []
def mapG (o : Option Ob) : ByteArray → Int := match o with | some (.map _ _ g _) => g | _ => fun _ => 0
def mapN (o : Option Ob) : Nat := match o with | some (.map _ _ _ n) => n | _ => 0
def mergeO (o : Ob) (o' : Option Ob) : Ob := match o with
  | .row m own sz n _ => .row m own sz n (rowF o')
  | .map k e _ _ => .map k e (mapG o') (mapN o')
  | o => o
def mergeS : List Ob → List Ob → Nat → List Ob
  | [], _, _ => []
  | o :: t, so, i => mergeO o so[i]? :: mergeS t so (i + 1)
noncomputable def eqB {α : Type} (x y : α) : Bool := @decide (x = y) (Classical.propDecidable _)

inductive Md where
  | pure | keep | any | mclone
  | clone (el sz by_ : Nat)
structure Cfg2 where
  P : Program
  call : Nat → List HV → Option HV
  call2 : Nat → List HV → List Ob → Option (HV × List Ob)
  mode : Nat → Md

/-- A type's zero, with nil where a slice stands. -/
def zNs (f : TypeId → Option (List HV)) : List Field → Option (List HV)
  | [] => some []
  | x :: fs => match f x.type, zNs f fs with
    | some a, some b => some (a ++ b)
    | _, _ => none
def zN (P : Program) : Nat → TypeId → Option (List HV)
  | 0, _ => none
  | d + 1, t => match P.underlying t with
    | some .bool => some [.bool false]
    | some (.int k) => some [.int k 0]
    | some .string => some [.str ByteArray.empty]
    | some (.slice _) => match elemT P t with
      | some (_, n, z, _) => some [.nl n z]
      | none => none
    | some (.pointer _) => some [.nilp]
    | some (.func ..) => some [.nilf]
    | some (.struct fs) => zNs (zN P d) fs.toList
    | _ => none
def likeN : HV → HV → Bool
  | .nl _ _, .nils => true
  | .nils, .nils => true
  | .nilp, .nilp => true
  | .nilf, .nilf => true
  | .int k a, .int k' b => decide (k = k') && decide (a = b)
  | .bool a, .bool b => a == b
  | .str a, .str b => decide (a = b)
  | _, _ => false
def likeNs : List HV → List HV → Bool
  | [], [] => true
  | a :: as, b :: bs => likeN a b && likeNs as bs
  | _, _ => false
def zeroN (P : Program) (t : TypeId) : Option (List HV) := match P.info? t with
  | some i => match i.zero with
    | some v => match zeroC v with
      | some z => match zN P 12 t with
        | some z' => match likeNs z' z with
          | true => some z'
          | false => none
        | none => none
      | none => none
    | none => none
  | none => none
/-- nil of a known type. -/
def nlT (P : Program) (t : TypeId) : HV → HV
  | .nils => match elemT P t with
    | some (_, sz, z, _) => .nl sz z
    | none => .nils
  | h => h
def nlTs (P : Program) : List TypeId → List HV → List HV
  | t :: ts, v :: vs => nlT P t v :: nlTs P ts vs
  | _, vs => vs
def scalarT (P : Program) (t : TypeId) : Bool := match P.underlying t with
  | some .bool => true
  | some (.int _) => true
  | some .string => true
  | _ => false

/-- A cell of an element, by its type. -/
def loadE (P : Program) (t : TypeId) (cs : List HV) (off : Nat) (K : HV → Option β) : Option β :=
  match P.underlying t with
  | some .bool => bndB cs[off]? fun b => K (.bool b)
  | some (.int k) => bndI k cs[off]? fun n => K (.int k n)
  | some .string => bndS cs[off]? fun s => K (.str s)
  | _ => loadC P t cs off K
def updF (f : Nat → List HV) (i off : Nat) (c : List HV) : Nat → List HV := fun j => cond (decide (j = i)) (splice (f i) off c) (f j)
def clrF (f : Nat → List HV) (lo n : Nat) (z : List HV) : Nat → List HV := fun j => cond (decide (lo ≤ j ∧ j < lo + n)) z (f j)

/-- What stands in a list, to be appended. -/
def srcK (st : List Ob) (x : HV) (K : Nat → Nat → (Nat → List HV) → List Nat → Option β) : Option β := match x with
  | .lst sz n f => K sz n f []
  | .nils => K 0 0 (fun _ => []) []
  | .nl sz z => K sz 0 (fun _ => z) []
  | .ow r => match st[r]? with
    | some (.row _ (some _) sz n f) => K sz n f [r]
    | _ => none
  | .arr r sz lo n => match st[r]? with
    | some (.row _ _ _ _ f) => K sz n (fun i => f (lo + i)) [r]
    | _ => none
  | _ => none

def zeroI (P : Program) (t : TypeId) : Bool := match P.info? t with
  | some i => match i.zero with
    | some (.int .i64 n) => decide (n = 0)
    | _ => false
  | none => false
abbrev KO (β : Type) := HV → Wr → List Nat → Option β

def appendK (P : Program) (id : Nat) (t : TypeId) (s x : HV) (st : List Ob) (K : KO β) : Option β :=
  match elemT P t with
  | some (el, sz, z, by_) => srcK st x fun sz' m g rd => brs (sz' == sz || m == 0) (match s with
    | .nils => br (decide (m * by_ ≤ 140737488355328)) (K (.ow id) [(id, .row true (some el) sz m g)] rd) none
    | .nl _ _ => br (decide (m * by_ ≤ 140737488355328)) (K (.ow id) [(id, .row true (some el) sz m g)] rd) none
    | .ow r => match st[r]? with
      | some (.row true (some el') sz'' n f) => brs (el' == el && sz'' == sz && !rd.elem r) (br (decide ((n + m) * by_ ≤ 140737488355328)) (K (.ow id) [(r, .gone), (id, .row true (some el) sz (n + m) (appF n f g))] (r :: rd)) none) none
      | _ => none
    | _ => none) none
  | none => none

def idsOk (ids : List Nat) : Bool := nodupB ids
/-- Where a call's things stand for its caller. -/
def backN (ids : List Nat) (nw : Nat) (k : Nat) : Option Nat := match ids[k]? with
  | some r => some r
  | none => some (nw + (k - ids.length))
def numW (ids : List Nat) (nw : Nat) : List Ob → Nat → Wr
  | [], _ => []
  | o :: so, k => match backN ids nw k with
    | some r => (r, renO (backN ids nw) o) :: numW ids nw so (k + 1)
    | none => numW ids nw so (k + 1)

noncomputable def callK (C : Cfg2) (fr : Option Nat) (g : Nat) (t : TypeId) (as : List HV) (st : List Ob) (K : KO β) : Option β :=
  let vis := reachL st 200 (as.flatMap (refsD 5)) []
  let ids := vis.filter fun r => liveO st[r]?
  brs (idsOk ids) (tellK (ren (posOf ids) 5) as fun as' => tellK (fun r => renO (posOf ids) (st.getD r .gone)) ids fun si =>
    bndX (C.call2 g as' si) fun r so => match C.mode g with
      | .keep => br (eqB so (mergeS si so 0)) (match scalarT C.P t with
        | true => typed C.P t (some r) fun r => K r (numW ids st.length (mergeS si so 0) 0) vis
        | false => br (eqB r (.tup [])) (K (.tup []) (numW ids st.length (mergeS si so 0) 0) vis) none) none
      | _ => brs (decide (ids.length ≤ so.length) && (match fr with | none => true | some _ => decide (so.length ≤ ids.length + 1))) (K (ren (backN ids (fr.getD st.length)) 5 r) (numW ids (fr.getD st.length) so 0) vis) none) none

noncomputable def evCall (C : Cfg2) (fr : Option Nat) (id g : Nat) (t : TypeId) (vs caps : List HV) (st : List Ob) (K : KO β) : Option β :=
  match C.mode g with
  | .pure => match (vs ++ caps).all (cloD 5) with
    | true => typed C.P t (C.call g (nzs C.P (paramsT C.P g) vs ++ caps)) fun r => K r [] []
    | false => brs (scalarT C.P t) (snapKs (snapK st 6) (vs ++ caps) fun as rd => typed C.P t (C.call g (nzs C.P (paramsT C.P g) as)) fun r => K r [] rd) none
  | .clone el sz by_ => match vs, caps with
    | [.lst sz' n f], [] => brs (sz' == sz) (br (decide (n * by_ ≤ 140737488355328)) (K (.ow id) [(id, .row true (some el) sz n f)] []) none) none
    | [.arr r sz' lo n], [] => match st[r]? with
      | some (.row _ _ sz'' _ f) => brs (sz' == sz && sz'' == sz) (br (decide (n * by_ ≤ 140737488355328)) (K (.ow id) [(id, .row true (some el) sz n (fun i => f (lo + i)))] [r]) none) none
      | _ => none
    | [.ow r], [] => match st[r]? with
      | some (.row _ (some _) sz' n f) => brs (sz' == sz) (br (decide (n * by_ ≤ 140737488355328)) (K (.ow id) [(id, .row true (some el) sz n f)] [r]) none) none
      | _ => none
    | _, _ => none
  | .mclone => match vs, caps with
    | [.mp r], [] => match st[r]? with
      | some (.map k e f c) => K (.mp id) [(id, .map k e f c)] [r]
      | _ => none
    | _, _ => none
  | _ => callK C fr g t (nzs C.P (paramsT C.P g) vs ++ caps) st K

def okV : HV → Bool
  | .undef => false
  | .tup _ => false
  | .own .. => false
  | _ => true

noncomputable def evOp2 (C : Cfg2) (o : Oper) (e : List HV) (st : List Ob) (fr : Option Nat) (K : KO β) : Option β :=
  let id := fr.getD st.length
  let fall : Option β := brs (o.op.operands.toList.all fun x => cloT (ev e x)) (evOp ⟨C.P, C.call⟩ true o e [] fun v _ _ => K v [] []) none
  match o.op with
  | .move x => evK e x fun v => K v [] []
  | .assign x => evK e x fun v => match isNils v with
    | true => match elemT C.P o.type with
      | some (el, sz, z, _) => K (.ow id) [(id, .row true (some el) sz 0 (fun _ => z))] []
      | none => K .nils [] []
    | false => K v [] []
  | .pick c a b => match ev e c with
    | .bool t => evK e a fun a => evK e b fun b => br t (K a [] []) (K b [] [])
    | _ => none
  | .alloc t => match zeroN C.P t with
    | some z => K (.var id 0) [(id, .cel z)] []
    | none => none
  | .box _ x => evK e x fun v => brs (okV v) (K (.var id 0) [(id, .cel (cellsH v))] []) none
  | .build t parts => match zeroN C.P t, C.P.underlying t with
    | some z, some (.struct fs) => brs (fs.toList.all fun f => (szT C.P f.type).isSome) (evKs e (parts.toList.map (·.2)) fun vs => brs (vs.all okV) (
        match fillH (placeT C.P fs) z ((parts.toList.map (·.1)).zip (nlTs C.P (parts.toList.map fun p => fieldT fs p.1) vs)) with
        | some cs => K (.agg cs) [] []
        | none => none) none) none
    | _, _ => none
  | .buildSlice t len parts => match elemT C.P t with
    | some (el, sz, z, _) => evKs e (parts.toList.map (·.2)) fun vs => closeKs (closeK st 4) vs fun vs W =>
        brs (decide (len * sz ≤ 16777216) && decide (parts.toList.map (·.1) = List.range len) && vs.all (fun v => (cellsH v).length == sz)) (K (.ow id) (W ++ [(id, .row true (some el) sz len (nthC (vs.map cellsH) z))]) (W.map (·.1))) none
    | none => none
  | .load t a => match ev e a with
    | .var r off => match st[r]? with
      | some (.cel cs) => loadC C.P t cs off fun v => K v [] [r]
      | _ => none
    | .elt r _ i off => match st[r]?, szT C.P t with
      | some (.row _ _ _ _ f), some _ => loadE C.P t (f i) off fun v => K v [] [r]
      | _, _ => none
    | _ => fall
  | .store t a x => evK e x fun v => match ev e a, szT C.P t with
    | .var r off, some n => match st[r]? with
      | some (.cel cs) => brs (okV v && decide ((cellsH v).length = n ∧ off + n ≤ cs.length)) (K .undef [(r, .cel (splice cs off (cellsH (nlT C.P t v))))] [r]) none
      | _ => none
    | .elt r _ i off, some n => closeK st 4 (nlT C.P t v) fun v W => match (appl st W)[r]? with
      | some (.row true own sz m f) => brs (decide ((cellsH v).length = n ∧ off + n ≤ sz)) (K .undef (W ++ [(r, .row true own sz m (updF f i off (cellsH v)))]) (r :: W.map (·.1))) none
      | _ => none
    | _, _ => none
  | .nilCheck x => match ev e x with
    | .var r off => K (.var r off) [] []
    | .elt r sz i off => K (.elt r sz i off) [] []
    | _ => fall
  | .binOp op t x y _ => match ev e x, ev e y with
    | .var .., .nilp => evBin C.P op t (ev e x) (ev e y) fun v => K v [] []
    | .elt .., .nilp => evBin C.P op t (ev e x) (ev e y) fun v => K v [] []
    | _, _ => fall
  | .makeFunc fn first captured => match fn, first.toList with
    | .func f, [] => evKs e captured.toList fun vs => brs (vs.all okV && vs.all isCell) (K (.fn f vs) [] []) none
    | _, _ => none
  | .makeSlice t l c => match elemT C.P t, ev e l, ev e c with
    | some (_, sz, z, by_), .int .i64 a, .int .i64 b => br (decide (a = b)) (br (decide (0 ≤ a ∧ a * by_ ≤ 140737488355328)) (K (.arr id sz 0 a.toNat) [(id, .row true none sz a.toNat (fun _ => z))] []) none) none
    | _, _, _ => none
  | .makeMap t res => match C.P.underlying t, res with
    | some (.map k el), none => match C.P.underlying k, C.P.underlying el with
      | some .string, some (.int .i64) => K (.mp id) [(id, .map k el (fun _ => 0) 0)] []
      | _, _ => none
    | _, _ => none
  | .slice t x lo hi mx => match ev e x, C.P.underlying t with
    | .arr r sz a n, some (.slice el) => match mx with
      | none => brs (szT C.P el == some sz) (sliceN n (lo.map (ev e)) (hi.map (ev e)) fun l h => K (.arr r sz (a + l) (h - l)) [] []) none
      | some m => empK C.P id t lo hi m e K
    | .ow r, some (.slice el) => match mx with
      | none => match st[r]? with
        | some (.row _ (some _) sz n _) => brs (szT C.P el == some sz) (sliceN n (lo.map (ev e)) (hi.map (ev e)) fun l h => K (.arr r sz l (h - l)) [] [r]) none
        | _ => none
      | some m => empK C.P id t lo hi m e K
    | .lst sz n f, some (.slice el) => match mx with
      | none => fall
      | some m => empK C.P id t lo hi m e K
    | .nl sz z, some (.slice el) => match mx with
      | none => brs (szT C.P el).isSome (sliceN 0 (lo.map (ev e)) (hi.map (ev e)) fun _ _ => K (.nl sz z) [] []) none
      | some m => empK C.P id t lo hi m e K
    | _, _ => fall
  | .fieldAddr t x i => match ev e x with
    | .var r off => evField C.P t i (.var r off) fun v => K v [] []
    | .elt r sz j off => evField C.P t i (.elt r sz j off) fun v => K v [] []
    | _ => fall
  | .indexAddr t x ix => match ev e x, ev e ix with
    | .arr r sz lo n, .int _ i => match elemT C.P t with
      | some (_, sz', _, _) => brs (sz' == sz) (br (decide (0 ≤ i ∧ i < n)) (K (.elt r sz (lo + i.toNat) 0) [] []) none) none
      | none => none
    | .ow r, .int _ i => match st[r]?, elemT C.P t with
      | some (.row _ (some _) sz n _), some (_, sz', _, _) => brs (sz' == sz) (br (decide (0 ≤ i ∧ i < n)) (K (.elt r sz i.toNat 0) [] [r]) none) none
      | _, _ => none
    | _, _ => fall
  | .extract t i => match ev e t with
    | .tup vs => match vs[i]? with
      | some v => K v [] []
      | none => none
    | _ => none
  | .lookup t x ix false => match C.P.underlying t, ev e x, ev e ix with
    | some (.map k el), .mp r, .str s => match st[r]? with
      | some (.map k' el' g _) => brs (k == k' && el == el' && zeroI C.P el) (br (decide (s.size ≤ 140737488355328)) (K (.int .i64 (g s)) [] [r]) none) none
      | _ => none
    | _, _, _ => none
  | .mapUpdate t x ix v => match C.P.underlying t, ev e x, ev e ix, ev e v with
    | some (.map k el), .mp r, .str s, .int .i64 n => match st[r]? with
      | some (.map k' el' g c) => brs (k == k' && el == el') (br (decide (c < 140737488355328 ∧ s.size ≤ 140737488355328 ∧ -9223372036854775808 ≤ n ∧ n ≤ 9223372036854775807)) (K .undef [(r, .map k el (fun s' => cond (decide (s' = s)) n (g s')) (c + 1))] [r]) none) none
      | _ => none
    | _, _, _, _ => none
  | .call c => match c.callee with
    | .builtin .len => match c.args.toList, c.argTypes.toList with
      | [x], [t] => match ev e x, elemT C.P t with
        | .arr _ _ _ n, some _ => K (.int .i64 n) [] []
        | .ow r, some _ => match st[r]? with
          | some (.row _ (some _) _ n _) => K (.int .i64 n) [] [r]
          | _ => none
        | .nl _ _, some _ => K (.int .i64 (0 : Nat)) [] []
        | _, _ => fall
      | _, _ => none
    | .builtin .append => match c.args.toList, c.argTypes.toList with
      | [s, x], [t, t'] => brs (t == t') (appendK C.P id t (ev e s) (ev e x) st K) none
      | _, _ => none
    | .builtin .clear => match c.args.toList, c.argTypes.toList with
      | [x], [t] => match ev e x, elemT C.P t with
        | .arr r sz lo n, some (_, sz', z, _) => match st[r]? with
          | some (.row true own _ m f) => brs (sz == sz') (K .undef [(r, .row true own sz m (clrF f lo n z))] [r]) none
          | _ => none
        | _, _ => none
      | _, _ => none
    | .builtin _ => fall
    | .value f => match ev e f with
      | .fn g caps => brs (okFn C.P g) (evKs e c.args.toList fun vs => brs (vs.all okV) (evCall C fr id g o.type vs caps st K) none) none
      | _ => none
    | .invoke _ _ => none
  | _ => fall
where
  empK (P : Program) (id : Nat) (t : TypeId) (lo hi : Option Operand) (m : Operand) (e : List HV) (K : KO β) : Option β :=
    match elemT P t, lo, hi.map (ev e), ev e m with
    | some (el, sz, z, _), none, some (.int .i64 0), .int .i64 0 => K (.ow id) [(id, .row true (some el) sz 0 (fun _ => z))] []
    | _, _, _, _ => none

/-- Operations in the text's order. -/
noncomputable def evOps2 (C : Cfg2) (all : Array Oper) : List Oper → List HV → List Ob → (List HV → List Ob → Option β) → Option β
  | [], e, st, K => K e st
  | o :: os, e, st, K => match o.guard with
    | none => evOp2 C o e st none fun v W _ => put e o.dst v fun e => evOps2 C all os e (appl st W) K
    | some (j, want) => match all[j]? with
      | some oj => match oj.dst with
        | some d => match e[d]? with
          | some (.bool b) => br b
              (setK e d (.bool true) fun e => brs want (evOp2 C o e st none fun v W _ => put e o.dst v fun e => evOps2 C all os e (appl st W) K) (put e o.dst (.tup []) fun e => evOps2 C all os e st K))
              (setK e d (.bool false) fun e => brs want (put e o.dst (.tup []) fun e => evOps2 C all os e st K) (evOp2 C o e st none fun v W _ => put e o.dst v fun e => evOps2 C all os e (appl st W) K))
          | some (.tup []) => put e o.dst (.tup []) fun e => evOps2 C all os e st K
          | _ => none
        | none => none
      | none => none

/-- What each operation of a drawn region looks at and writes. -/
abbrev Fp := List (Nat × List Nat × List Nat)
noncomputable def opD (C : Cfg2) (base i : Nat) (o : Oper) (e : List HV) (st : List Ob) (K : KO β) : Option β := match st[base + i]? with
  | some .free => evOp2 C o e st (some (base + i)) fun v W rd => K v W ((base + i) :: rd)
  | _ => none
noncomputable def evOpsD (C : Cfg2) (all : Array Oper) (base : Nat) : List Oper → Nat → List HV → List Ob → Fp → (List HV → List Ob → Fp → Option β) → Option β
  | [], _, e, st, fp, K => K e st fp
  | o :: os, i, e, st, fp, K => match o.guard with
    | none => opD C base i o e st fun v W rd => put e o.dst v fun e => evOpsD C all base os (i + 1) e (appl st W) (fp ++ [(i, W.map (·.1), rd)]) K
    | some (j, want) => match all[j]? with
      | some oj => match oj.dst with
        | some d => match e[d]? with
          | some (.bool b) => br b
              (setK e d (.bool true) fun e => brs want (opD C base i o e st fun v W rd => put e o.dst v fun e => evOpsD C all base os (i + 1) e (appl st W) (fp ++ [(i, W.map (·.1), rd)]) K) (put e o.dst (.tup []) fun e => evOpsD C all base os (i + 1) e st (fp ++ [(i, [], [])]) K))
              (setK e d (.bool false) fun e => brs want (put e o.dst (.tup []) fun e => evOpsD C all base os (i + 1) e st (fp ++ [(i, [], [])]) K) (opD C base i o e st fun v W rd => put e o.dst v fun e => evOpsD C all base os (i + 1) e (appl st W) (fp ++ [(i, W.map (·.1), rd)]) K))
          | some (.tup []) => put e o.dst (.tup []) fun e => evOpsD C all base os (i + 1) e st (fp ++ [(i, [], [])]) K
          | _ => none
        | none => none
      | none => none
/-- What stands ahead of each operation. -/
def dedup : List Nat → List Nat → List Nat
  | [], acc => acc
  | x :: t, acc => cond (acc.elem x) (dedup t acc) (dedup t (x :: acc))
def predsOf (o : Oper) : List Nat := (o.after.toList.filter fun x => Region.binds .any x).map (·.on)
def ancG : List Oper → List (List Nat) → List (List Nat)
  | [], acc => acc
  | o :: os, acc => ancG os (acc ++ [dedup ((predsOf o).flatMap fun k => k :: acc.getD k []) []])
def ancT (ops : Array Oper) : List (List Nat) := ancG ops.toList []
def ancOk (ops : Array Oper) (an : List (List Nat)) : Bool := (List.range ops.size).all fun j => match ops[j]? with
  | some o => (an.getD j []).all fun i => (predsOf o).any fun k => k == i || (an.getD k []).elem i
  | none => false
def apartL (a b : List Nat) : Bool := a.all fun x => !b.elem x
def fpOk (n : Nat) (an : List (List Nat)) (fp : Fp) : Bool := (fp.all fun x => x.2.1.all fun i => decide (i < n)) && fp.all fun x => x.2.1.isEmpty || fp.all fun y => x.1 == y.1 || (an.getD y.1 []).elem x.1 || (an.getD x.1 []).elem y.1 || (apartL x.2.1 y.2.1 && apartL x.2.1 y.2.2)

/-- Of the slots only those of a rising list are kept. -/
def maskK : Nat → List Nat → List HV → (List HV → Option β) → Option β
  | _, _, [], K => K []
  | i, [], _ :: hs, K => maskK (i + 1) [] hs fun t => K (.undef :: t)
  | i, k :: ks, h :: hs, K => match k == i with
    | true => maskK (i + 1) ks hs fun t => K (h :: t)
    | false => maskK (i + 1) (k :: ks) hs fun t => K (.undef :: t)

abbrev Out2 := Ex × List HV × List Ob
def bndY {β : Type} (x : Option Out2) (f : Ex → List HV → List Ob → Option β) : Option β := match x with | some (x, e, st) => f x e st | none => none
theorem bndY_eq {β : Type} {x : Option Out2} {f : Ex → List HV → List Ob → Option β} {r : β} (h : bndY x f = some r) : ∃ a e st, x = some (a, e, st) ∧ f a e st = some r := by
  cases x with
  | none => cases h
  | some p => exact ⟨p.1, p.2.1, p.2.2, rfl, h⟩
theorem bndY_some {β : Type} (x : Ex) (e : List HV) (st : List Ob) (f : Ex → List HV → List Ob → Option β) : bndY (some (x, e, st)) f = f x e st := rfl

/-- Only what is reached is kept, in the order in which it is reached. -/
def canonK (n : Nat) (e : List HV) (st : List Ob) (K : List HV → List Ob → Option β) : Option β :=
  let ids := (reachL st 200 (List.range n ++ e.flatMap (refsD 5)) []).filter fun r => liveO st[r]?
  brs (idsOk ids && decide (ids.take n = List.range n)) (tellK (ren (posOf ids) 5) e fun e => tellK (fun r => renO (posOf ids) (st.getD r .gone)) ids fun st => K e st) none

def iter2 (f : List HV → List Ob → Option Out2) (n : Nat) : Nat → List HV → List Ob → Option Out2
  | 0, _, _ => none
  | k + 1, e, st => bndY (f e st) fun x e st => match x with
    | .normal => canonK n e st fun e st => iter2 f n k e st
    | x => some (x, e, st)

noncomputable def evC2 (C : Cfg2) (kp : Nat → List Nat) (n k : Nat) : Code → (β : Type) → List HV → List Ob → (Ex → List HV → List Ob → Option β) → Option β
  | .skip, _, e, st, K => K .normal e st
  | .region id ops false, _, e, st, K => evOps2 C ops ops.toList e st fun e st => maskK 0 (kp id) e fun e => K .normal e st
  | .region id ops true, _, e, st, K => evOpsD C ops st.length ops.toList 0 e (st ++ List.replicate ops.size .free) [] fun e st' fp => brs (fpOk (st.length + ops.size) (ancT ops) fp) (maskK 0 (kp id) e fun e => K .normal e st') none
  | .seq a b, β, e, st, K => evC2 C kp n k a β e st fun x e st => match x with
    | .normal => evC2 C kp n k b β e st K
    | x => K x e st
  | .cond c a b, β, e, st, K => match ev e c with
    | .bool t => br t (evC2 C kp n k a β e st K) (evC2 C kp n k b β e st K)
    | _ => none
  | .block id c, β, e, st, K => evC2 C kp n k c β e st fun x e st => match x with
    | .exit i => brs (i == id) (K .normal e st) (K (.exit i) e st)
    | x => K x e st
  | .loop c, _, e, st, K => canonK n e st fun e st => bndY (iter2 (fun e st => evC2 C kp n k c Out2 e st fun x e st => some (x, e, st)) n k e st) K
  | .exit id, _, e, st, K => K (.exit id) e st
  | .ret, _, e, st, K => K .ret e st
  | _, _, _, _, _ => none

def resX (P : Program) (e : List HV) (st : List Ob) : ResultVar → (HV → Option β) → Option β
  | .tmp t, K => getK e t K
  | .cell a t, K => match e.getD a .undef with
    | .var r off => match st[r]? with
      | some (.cel cs) => loadC P t cs off K
      | _ => none
    | _ => none
def ressX (P : Program) (e : List HV) (st : List Ob) : List ResultVar → (List HV → Option β) → Option β
  | [], K => K []
  | r :: rs, K => resX P e st r fun v => ressX P e st rs fun vs => K (v :: vs)
def oneX : List HV → HV
  | [v] => v
  | vs => .tup vs
/-- What a call answers, and what it leaves. -/
def retX (P : Program) (n : Nat) (rs : List ResultVar) (e : List HV) (st : List Ob) : Option (HV × List Ob) :=
  ressX P e st rs fun vs => canonK n [oneX vs] st fun e st => match e with
    | [r] => some (r, st)
    | _ => none
noncomputable def body2 (C : Cfg2) (kp : Nat → List Nat) (k : Nat) (fn : Func) (args : List HV) (st : List Ob) : Option (HV × List Ob) := match fn.body with
  | some c => evC2 C kp st.length k c (HV × List Ob) (args ++ List.replicate (fn.ntmps - args.length) .undef) st fun x e st' => match x with
    | .exit _ => none
    | _ => retX C.P st.length fn.results.toList e st'
  | none => none

/-- Which functions are stepped through; which slots of theirs are kept from region to region. -/
structure Env2 where
  P : Program
  mode : Nat → Md
  fs : List Nat
  kp : Nat → Nat → List Nat
abbrev Ext2 := Nat → Option ((Nat → List HV → List Ob → Option (HV × List Ob)) → List HV → List Ob → Option (HV × List Ob))
noncomputable def callX (E : Env2) (call : Nat → List HV → Option HV) (ext : Ext2) : Nat → Nat → List HV → List Ob → Option (HV × List Ob)
  | 0, _, _, _ => none
  | k + 1, f, args, st => match ext f with
    | some g => g (callX E call ext k) args st
    | none => match E.fs.elem f with
      | true => match E.P.funcs[f]? with
        | some fn => body2 ⟨E.P, call, callX E call ext k, E.mode⟩ (E.kp f) k fn args st
        | none => none
      | false => none

/-- A call on closed values, its answer closed. -/
def closedR (x : Option (HV × List Ob)) : Option HV := match x with
  | some (r, st) => closeK st 4 r fun r _ => some r
  | none => none

/-- The regions whose order is drawn. -/
def lexC2 : Code → Bool
  | .region _ ops true => Region.lexFrom .any ops ops.size 0 (Array.replicate ops.size false) && ancOk ops (ancT ops)
  | .seq a b => lexC2 a && lexC2 b
  | .cond _ a b => lexC2 a && lexC2 b
  | .block _ c => lexC2 c
  | .loop c => lexC2 c
  | _ => true
def lexF2 (P : Program) (f : Nat) : Bool := match P.funcs[f]? with
  | some fn => match fn.body with
    | some c => lexC2 c
    | none => false
  | none => false
end Go.Eng
end

section
namespace Go.Eng
open Go.RowKit
set_option linter.unusedVariables false
set_option linter.unusedSimpArgs false

/-- What is settled; which block a thing is; which slice a list is; how many elements a row has. -/
structure Gx where
  S : Nat → Nat → Prop
  R : Nat → Nat → Prop
  T : Nat → Value → Prop
  L : Nat → Nat → Nat → Prop

mutual
inductive RepX (G : Gx) (w : World) : HV → Value → Prop
  | undef (v) : RepX G w .undef v
  | cl (h v) (k : RepC G.S w h v) : RepX G w h v
  | nl (sz z) : RepX G w (.nl sz z) (.slice none 0 0)
  | var (r off g) (h : G.R r g) : RepX G w (.var r off) (.pointer (some ⟨g, off, none⟩))
  | elt (r sz i off g n) (h : G.R r g) (hl : G.L r sz n) (hi : i < n) : RepX G w (.elt r sz i off) (.pointer (some ⟨g, i * sz + off, none⟩))
  | arr (r sz lo n A c m) (hl : G.L r sz m) (hn : lo + n ≤ m) (hc : n ≤ c) (h : 0 < n → ∃ g, G.R r g ∧ A = some ⟨g, lo * sz, none⟩) : RepX G w (.arr r sz lo n) (.slice A n c)
  | ow (r A n c) (h : G.T r (.slice A n c)) : RepX G w (.ow r) (.slice A n c)
  | mp (r g) (h : G.R r g) : RepX G w (.mp r) (.map (some g))
  | fn (f cs vs) (h : RepXs G w cs vs) : RepX G w (.fn f cs) (.func (.func f) #[] vs.toArray)
  | agg (cs cells) (h : RepXs G w cs cells) : RepX G w (.agg cs) (.agg cells.toArray)
  | tup (hs us) (h : RepXt G w hs us) : RepX G w (.tup hs) (.tuple us.toArray)
inductive RepXs (G : Gx) (w : World) : List HV → List Value → Prop
  | nil : RepXs G w [] []
  | cons (x v xs vs) (h : RepX G w x v) (h1 : v.oneCell' = true) (hs : RepXs G w xs vs) : RepXs G w (x :: xs) (v :: vs)
inductive RepXt (G : Gx) (w : World) : List HV → List Value → Prop
  | nil : RepXt G w [] []
  | cons (x v xs vs) (h : RepX G w x v) (hs : RepXt G w xs vs) : RepXt G w (x :: xs) (v :: vs)
end

structure Mono (G : Gx) (w : World) (G' : Gx) (w' : World) : Prop where
  gro : Gro G.S w G'.S w'
  R : ∀ r g, G.R r g → G'.R r g
  T : ∀ r v, G.T r v → G'.T r v
  L : ∀ r s n, G.L r s n → G'.L r s n
theorem Mono.refl (G w) : Mono G w G w := ⟨Gro.refl _ _, fun _ _ h => h, fun _ _ h => h, fun _ _ _ h => h⟩
theorem Mono.trans {G w G1 w1 G2 w2} (h : Mono G w G1 w1) (k : Mono G1 w1 G2 w2) : Mono G w G2 w2 :=
  ⟨h.gro.trans k.gro, fun r g x => k.R r g (h.R r g x), fun r g x => k.T r g (h.T r g x), fun r s n x => k.L r s n (h.L r s n x)⟩

mutual
theorem RepX.mono {G w G' w'} (m : Mono G w G' w') : ∀ {h : HV} {v : Value}, RepX G w h v → RepX G' w' h v
  | _, _, .undef v => .undef v
  | _, _, .cl h v k => .cl h v (k.mono m.gro)
  | _, _, .nl sz z => .nl sz z
  | _, _, .var r off g h => .var r off g (m.R _ _ h)
  | _, _, .elt r sz i off g n h hl hi => .elt r sz i off g n (m.R _ _ h) (m.L _ _ _ hl) hi
  | _, _, .arr r sz lo n A c k hl hn hc h => .arr r sz lo n A c k (m.L _ _ _ hl) hn hc (fun h0 => let ⟨g, a, b⟩ := h h0; ⟨g, m.R _ _ a, b⟩)
  | _, _, .ow r A n c h => .ow r A n c (m.T _ _ h)
  | _, _, .mp r g h => .mp r g (m.R _ _ h)
  | _, _, .fn f cs vs h => .fn f cs vs (RepXs.mono m h)
  | _, _, .agg cs cells h => .agg cs cells (RepXs.mono m h)
  | _, _, .tup hs us h => .tup hs us (RepXt.mono m h)
theorem RepXs.mono {G w G' w'} (m : Mono G w G' w') : ∀ {hs : List HV} {vs : List Value}, RepXs G w hs vs → RepXs G' w' hs vs
  | _, _, .nil => .nil
  | _, _, .cons x v xs vs h h1 hs => .cons x v xs vs (RepX.mono m h) h1 (RepXs.mono m hs)
theorem RepXt.mono {G w G' w'} (m : Mono G w G' w') : ∀ {hs : List HV} {vs : List Value}, RepXt G w hs vs → RepXt G' w' hs vs
  | _, _, .nil => .nil
  | _, _, .cons x v xs vs h hs => .cons x v xs vs (RepX.mono m h) (RepXt.mono m hs)
end

section
variable {G : Gx} {w : World}
theorem RepXs.length {hs vs} (h : RepXs G w hs vs) : vs.length = hs.length := by
  induction hs generalizing vs with
  | nil => cases h; rfl
  | cons x xs ih => cases h with | cons _ _ _ _ _ _ hs => simp [ih hs]
theorem RepXt.length {hs vs} (h : RepXt G w hs vs) : vs.length = hs.length := by
  induction hs generalizing vs with
  | nil => cases h; rfl
  | cons x xs ih => cases h with | cons _ _ _ _ _ hs => simp [ih hs]
theorem RepXs.at {hs vs} (h : RepXs G w hs vs) : ∀ {i : Nat} {x : HV}, hs[i]? = some x → ∃ v, vs[i]? = some v ∧ RepX G w x v ∧ v.oneCell' = true := by
  induction hs generalizing vs with
  | nil => intro i x hi; simp at hi
  | cons y ys ih =>
    intro i x hi
    cases h with
    | cons _ v _ vs h h1 hs =>
      cases i with
      | zero => simp at hi; subst hi; exact ⟨v, rfl, h, h1⟩
      | succ i => simp at hi; obtain ⟨u, hu, r⟩ := ih hs hi; exact ⟨u, by simpa using hu, r⟩
theorem RepXt.at {hs vs} (h : RepXt G w hs vs) : ∀ {i : Nat} {x : HV}, hs[i]? = some x → ∃ v, vs[i]? = some v ∧ RepX G w x v := by
  induction hs generalizing vs with
  | nil => intro i x hi; simp at hi
  | cons y ys ih =>
    intro i x hi
    cases h with
    | cons _ v _ vs h hs =>
      cases i with
      | zero => simp at hi; subst hi; exact ⟨v, rfl, h⟩
      | succ i => simp at hi; obtain ⟨u, hu, r⟩ := ih hs hi; exact ⟨u, by simpa using hu, r⟩
theorem RepXs.one {hs vs} (h : RepXs G w hs vs) : ∀ v ∈ vs, v.oneCell' = true := by
  induction hs generalizing vs with
  | nil => cases h; intro v hv; cases hv
  | cons y ys ih =>
    cases h with
    | cons _ v _ vs h h1 hs =>
      intro u hu
      rcases List.mem_cons.1 hu with rfl | hu
      · exact h1
      · exact ih hs u hu
theorem RepXs.append {hs vs hs' vs'} (h : RepXs G w hs vs) (h' : RepXs G w hs' vs') : RepXs G w (hs ++ hs') (vs ++ vs') := by
  induction hs generalizing vs with
  | nil => cases h; exact h'
  | cons y ys ih => cases h with | cons _ v _ vs h h1 hs => exact .cons _ _ _ _ h h1 (ih hs)
theorem RepXt.append {hs vs hs' vs'} (h : RepXt G w hs vs) (h' : RepXt G w hs' vs') : RepXt G w (hs ++ hs') (vs ++ vs') := by
  induction hs generalizing vs with
  | nil => cases h; exact h'
  | cons y ys ih => cases h with | cons _ v _ vs h hs => exact .cons _ _ _ _ h (ih hs)
theorem RepXs.take {hs vs} (h : RepXs G w hs vs) (n : Nat) : RepXs G w (hs.take n) (vs.take n) := by
  induction hs generalizing vs n with
  | nil => cases h; simpa using RepXs.nil
  | cons y ys ih =>
    cases h with
    | cons _ v _ vs h h1 hs =>
      cases n with
      | zero => exact .nil
      | succ n => exact .cons _ _ _ _ h h1 (ih hs n)
theorem RepXs.drop {hs vs} (h : RepXs G w hs vs) (n : Nat) : RepXs G w (hs.drop n) (vs.drop n) := by
  induction hs generalizing vs n with
  | nil => cases h; simpa using RepXs.nil
  | cons y ys ih =>
    cases h with
    | cons _ v _ vs h h1 hs =>
      cases n with
      | zero => exact .cons _ _ _ _ h h1 hs
      | succ n => exact ih hs n
theorem RepXs.single {x v} (h : RepX G w x v) (h1 : v.oneCell' = true) : RepXs G w [x] [v] := .cons _ _ _ _ h h1 .nil
theorem RepXs.ofC {hs vs} (h : RepCs G.S w hs vs) : RepXs G w hs vs := by
  induction hs generalizing vs with
  | nil => cases h; exact .nil
  | cons y ys ih => cases h with | cons _ v _ vs h h1 hs => exact .cons _ _ _ _ (.cl _ _ h) h1 (ih hs)
theorem RepXt.ofT {hs vs} (h : RepTs G.S w hs vs) : RepXt G w hs vs := by
  induction hs generalizing vs with
  | nil => cases h; exact .nil
  | cons y ys ih => cases h with | cons _ v _ vs h hs => exact .cons _ _ _ _ (.cl _ _ h) (ih hs)
theorem RepXs.t {hs vs} (h : RepXs G w hs vs) : RepXt G w hs vs := by
  induction hs generalizing vs with
  | nil => cases h; exact .nil
  | cons y ys ih => cases h with | cons _ v _ vs h h1 hs => exact .cons _ _ _ _ h (ih hs)
theorem RepXs.splice {cs cells new news} (h : RepXs G w cs cells) (hn : RepXs G w new news) (off : Nat) : RepXs G w (splice cs off new) (cells.take off ++ news ++ cells.drop (off + news.length)) := by
  unfold Eng.splice
  have := ((h.take off).append hn).append (h.drop (off + new.length))
  rw [hn.length]
  exact this

theorem RepX.agg_inv {cs v} (h : RepX G w (.agg cs) v) : ∃ cells : List Value, v = .agg cells.toArray ∧ RepXs G w cs cells := by
  cases h with
  | cl _ _ k => cases k with | agg _ cells h => exact ⟨cells, rfl, .ofC h⟩
  | agg _ cells h => exact ⟨cells, rfl, h⟩
theorem RepX.fn_inv {f cs v} (h : RepX G w (.fn f cs) v) : ∃ vs : List Value, v = .func (.func f) #[] vs.toArray ∧ RepXs G w cs vs := by
  cases h with
  | cl _ _ k => cases k with | fn _ _ vs h => exact ⟨vs, rfl, .ofC h⟩
  | fn _ _ vs h => exact ⟨vs, rfl, h⟩
theorem RepX.tup_inv {cs v} (h : RepX G w (.tup cs) v) : ∃ us : List Value, v = .tuple us.toArray ∧ RepXt G w cs us := by
  cases h with
  | cl _ _ k => cases k
  | tup _ us h => exact ⟨us, rfl, h⟩
theorem RepX.var_inv {r off v} (h : RepX G w (.var r off) v) : ∃ g, G.R r g ∧ v = .pointer (some ⟨g, off, none⟩) := by
  cases h with
  | cl _ _ k => cases k
  | var _ _ g h => exact ⟨g, h, rfl⟩
theorem RepX.elt_inv {r sz i off v} (h : RepX G w (.elt r sz i off) v) : ∃ g n, G.R r g ∧ G.L r sz n ∧ i < n ∧ v = .pointer (some ⟨g, i * sz + off, none⟩) := by
  cases h with
  | cl _ _ k => cases k
  | elt _ _ _ _ g n h hl hi => exact ⟨g, n, h, hl, hi, rfl⟩
theorem RepX.arr_inv {r sz lo n v} (h : RepX G w (.arr r sz lo n) v) : ∃ A c m, v = .slice A n c ∧ G.L r sz m ∧ lo + n ≤ m ∧ n ≤ c ∧ (0 < n → ∃ g, G.R r g ∧ A = some ⟨g, lo * sz, none⟩) := by
  cases h with
  | cl _ _ k => cases k
  | arr _ _ _ _ A c m hl hn hc h => exact ⟨A, c, m, rfl, hl, hn, hc, h⟩
theorem RepX.ow_inv {r v} (h : RepX G w (.ow r) v) : G.T r v ∧ ∃ A n c, v = .slice A n c := by
  cases h with
  | cl _ _ k => cases k
  | ow _ A n c h => exact ⟨h, A, n, c, rfl⟩
theorem RepX.mp_inv {r v} (h : RepX G w (.mp r) v) : ∃ g, G.R r g ∧ v = .map (some g) := by
  cases h with
  | cl _ _ k => cases k
  | mp _ g h => exact ⟨g, h, rfl⟩
theorem RepX.nl_inv {sz z v} (h : RepX G w (.nl sz z) v) : v = .slice none 0 0 := by
  cases h with
  | cl _ _ k => cases k
  | nl _ _ => rfl
theorem RepX.int_inv {k n v} (h : RepX G w (.int k n) v) : v = .int k n := by cases h with | cl _ _ k => cases k; rfl
theorem RepX.bool_inv {b v} (h : RepX G w (.bool b) v) : v = .bool b := by cases h with | cl _ _ k => cases k; rfl
theorem RepX.str_inv {s v} (h : RepX G w (.str s) v) : v = .string s := by cases h with | cl _ _ k => cases k; rfl
theorem RepX.nils_inv {v} (h : RepX G w .nils v) : v = .slice none 0 0 := by cases h with | cl _ _ k => cases k; rfl
theorem RepX.nilp_inv {v} (h : RepX G w .nilp v) : v = .pointer none := by cases h with | cl _ _ k => cases k; rfl
theorem RepX.lst_inv {sz n f v} (h : RepX G w (.lst sz n f) v) : RepC G.S w (.lst sz n f) v := by cases h with | cl _ _ k => exact k
theorem RepX.ptr_inv {cs off v} (h : RepX G w (.ptr cs off) v) : RepC G.S w (.ptr cs off) v := by cases h with | cl _ _ k => exact k

/-- A value's cells. -/
theorem RepX.cells {x v} (h : RepX G w x v) (hx : okV x = true) : RepXs G w (cellsH x) v.cells.toList := by
  cases h with
  | undef => cases hx
  | cl _ _ k => exact .ofC k.cells
  | agg cs cells h => simpa [cellsH, Value.cells] using h
  | tup => cases hx
  | nl sz z => exact RepXs.single (.nl sz z) rfl
  | var r off g h => exact RepXs.single (.var r off g h) rfl
  | elt r sz i off g n h hl hi => exact RepXs.single (.elt r sz i off g n h hl hi) rfl
  | arr r sz lo n A c m hl hn hc h => exact RepXs.single (.arr r sz lo n A c m hl hn hc h) rfl
  | ow r A n c h => exact RepXs.single (.ow r A n c h) rfl
  | mp r g h => exact RepXs.single (.mp r g h) rfl
  | fn f cs vs h => exact RepXs.single (.fn f cs vs h) rfl
end
end Go.Eng
end

section
namespace Go.Eng
open Go.RowKit
set_option linter.unusedVariables false
set_option linter.unusedSimpArgs false

/-- A map from texts to whole numbers. -/
def MapAt (P : Program) (w : World) (k e b : Nat) (g : ByteArray → Int) (cnt : Nat) : Prop :=
  P.underlying k = some .string ∧ P.underlying e = some (.int .i64) ∧ ∃ D : DataW Unit, w.ownsMap P k (plainElem P e) b cnt D ∧ ∀ s : ByteArray, D.atKey (.string s.data.toList) (.lit (.int .i64 0)) = .lit (.int .i64 (g s))
def Els (G : Gx) (w : World) (g : Nat) (m : Bool) (sz n : Nat) (f : Nat → List HV) (cells : Array Value) : Prop :=
  (∀ i, i < n → RepCs G.S w (f i) ((cells.toList.drop (i * sz)).take sz)) ∧ (m = true → ∀ o, ¬ G.S g o) ∧ (m = false → ∀ o, o < n * sz → G.S g o)
def RowAt (P : Program) (G : Gx) (w : World) (id : Nat) (m : Bool) (own : Option Nat) (sz n : Nat) (f : Nat → List HV) : Prop := match own with
  | none => n = 0 ∨ ∃ g t cells, G.R id g ∧ w.heap[g]? = some (.cells cells t (0, 0)) ∧ n * sz ≤ cells.size ∧ Els G w g m sz n f cells
  | some e => (P.info? e).map (·.size) = some sz ∧ ∃ v, G.T id v ∧ ((n = 0 ∧ ∃ A, v = .slice A 0 0) ∨ ∃ g cap cells, v = .slice (some ⟨g, 0, none⟩) n cap ∧ G.R id g ∧ w.heap[g]? = some (.cells cells e (0, 0)) ∧ n ≤ cap ∧ cap ≤ maxLen ∧ cells.size = cap * sz ∧ Els G w g m sz n f cells)
/-- What a thing stands for. -/
def RepO (P : Program) (G : Gx) (w : World) (id : Nat) : Ob → Prop
  | .cel cs => ∃ g t cells, G.R id g ∧ w.heap[g]? = some (.cells cells t (0, 0)) ∧ RepXs G w cs cells.toList ∧ ∀ o, ¬ G.S g o
  | .row m own sz n f => G.L id sz n ∧ RowAt P G w id m own sz n f
  | .map k e g cnt => ∃ b, G.R id b ∧ MapAt P w k e b g cnt ∧ ∀ o, ¬ G.S b o
  | .free => (∀ g, ¬ G.R id g) ∧ (∀ v, ¬ G.T id v) ∧ ∀ s n, ¬ G.L id s n
  | .gone => True
def live (st : List Ob) (r : Nat) : Prop := liveO st[r]? = true

structure St (P : Program) (G : Gx) (st : List Ob) (w : World) : Prop where
  obj : ∀ (id : Nat) o, st[id]? = some o → RepO P G w id o
  rlt : ∀ r g, G.R r g → r < st.length
  tlt : ∀ r v, G.T r v → r < st.length
  llt : ∀ r s n, G.L r s n → r < st.length
  rfun : ∀ r g g', G.R r g → G.R r g' → g = g'
  tfun : ∀ r v v', G.T r v → G.T r v' → v = v'
  lfun : ∀ r s n s' n', G.L r s n → G.L r s' n' → s = s' ∧ n = n'
  rinj : ∀ r r' g, live st r → live st r' → G.R r g → G.R r' g → r = r'
  rold : ∀ r g, G.R r g → g < w.heap.size
  slt : ∀ b o, G.S b o → b < w.heap.size

/-- How things went on: what was not in sight is as it was. -/
structure Fr (n : Nat) (G : Gx) (w : World) (G' : Gx) (w' : World) : Prop where
  os : w'.os = w.os
  tape : w'.tape = w.tape
  output : w'.output = w.output
  size : w.heap.size ≤ w'.heap.size
  blk : ∀ k, k < w.heap.size → (∀ r, ¬ G.R r k) → w'.heap[k]? = w.heap[k]?
  gro : Gro G.S w G'.S w'
  snew : ∀ b o, G'.S b o → G.S b o ∨ (∃ r, G.R r b) ∨ w.heap.size ≤ b
  rnew : ∀ r g, G'.R r g → (∃ r0, G.R r0 g) ∨ w.heap.size ≤ g
  rkeep : ∀ r g, r < n → G.R r g → G'.R r g
  tkeep : ∀ r v, r < n → G.T r v → G'.T r v
  lkeep : ∀ r s k, r < n → G.L r s k → G'.L r s k
theorem Fr.refl (n G w) : Fr n G w G w := ⟨rfl, rfl, rfl, Nat.le_refl _, fun _ _ _ => rfl, Gro.refl _ _, fun _ _ h => .inl h, fun r _ h => .inl ⟨r, h⟩, fun _ _ _ h => h, fun _ _ _ h => h, fun _ _ _ _ h => h⟩
theorem Fr.trans {n G w G1 w1 G2 w2} (h : Fr n G w G1 w1) (k : Fr n G1 w1 G2 w2) : Fr n G w G2 w2 where
  os := k.os.trans h.os
  tape := k.tape.trans h.tape
  output := k.output.trans h.output
  size := Nat.le_trans h.size k.size
  blk := fun b hb hn => (k.blk b (Nat.lt_of_lt_of_le hb h.size) (fun r hr => by
    rcases h.rnew r b hr with ⟨r0, h0⟩ | h0
    · exact hn r0 h0
    · omega)).trans (h.blk b hb hn)
  gro := h.gro.trans k.gro
  snew := fun b o hs => by
    rcases k.snew b o hs with h1 | ⟨r, h1⟩ | h1
    · exact h.snew b o h1
    · rcases h.rnew r b h1 with h2 | h2
      · exact .inr (.inl h2)
      · exact .inr (.inr h2)
    · exact .inr (.inr (Nat.le_trans h.size h1))
  rnew := fun r g hr => by
    rcases k.rnew r g hr with ⟨r0, h0⟩ | h0
    · exact h.rnew r0 g h0
    · exact .inr (Nat.le_trans h.size h0)
  rkeep := fun r g hr h0 => k.rkeep r g hr (h.rkeep r g hr h0)
  tkeep := fun r v hr h0 => k.tkeep r v hr (h.tkeep r v hr h0)
  lkeep := fun r s n hr h0 => k.lkeep r s n hr (h.lkeep r s n hr h0)
theorem Fr.push {n G w G1 w1} (h : Fr n G w G1 w1) {id : Nat} {b : Option Nat} {v : Option Value} {l : Option (Nat × Nat)} (hb : ∀ g, b = some g → (∃ r0, G.R r0 g) ∨ w.heap.size ≤ g) :
    Fr n G w ⟨G1.S, fun r g => G1.R r g ∨ (r = id ∧ b = some g), fun r u => G1.T r u ∨ (r = id ∧ v = some u), fun r s n => G1.L r s n ∨ (r = id ∧ l = some (s, n))⟩ w1 :=
  ⟨h.os, h.tape, h.output, h.size, h.blk, h.gro, h.snew, fun r g hr => by rcases hr with hr | ⟨_, hr⟩; exact h.rnew r g hr; exact hb g hr,
    fun r g hn hr => .inl (h.rkeep r g hn hr), fun r g hn hr => .inl (h.tkeep r g hn hr), fun r s k hn hr => .inl (h.lkeep r s k hn hr)⟩
theorem Fr.below {n G w G' w'} (h : Fr n G w G' w') (h0 : ∀ r g, G.R r g → w.heap.size ≤ g) : Below w.heap.size w w' :=
  ⟨h.os, h.tape, h.output, h.size, fun k hk => h.blk k hk (fun r hr => by have := h0 r k hr; omega)⟩

section
variable {P : Program} {G : Gx} {st : List Ob} {w : World}

theorem setO_set {st : List Ob} {i : Nat} {o : Ob} (h : i < st.length) : setO st i o = st.set i o := by
  induction st generalizing i with
  | nil => cases h
  | cons x t ih => cases i with
    | zero => rfl
    | succ i => simp only [setO, List.set_cons_succ]; rw [ih (by simpa using h)]
theorem setO_end {st : List Ob} {o : Ob} : setO st st.length o = st ++ [o] := by
  induction st with
  | nil => rfl
  | cons x t ih => simp only [setO, List.length_cons, List.cons_append, ih]
theorem setO_get {st : List Ob} {i : Nat} {o : Ob} (h : i ≤ st.length) (j : Nat) : (setO st i o)[j]? = if i = j then some o else st[j]? := by
  rcases Nat.lt_or_ge i st.length with hlt | hge
  · rw [setO_set hlt, List.getElem?_set]
    by_cases e : i = j
    · rw [if_pos e, if_pos e, if_pos hlt]
    · rw [if_neg e, if_neg e]
  · have : i = st.length := by omega
    subst this
    rw [setO_end, List.getElem?_append]
    by_cases e : st.length = j
    · subst e; simp
    · rw [if_neg e]
      split
      · rfl
      · rename_i hj
        rw [List.getElem?_eq_none (by simp; omega), List.getElem?_eq_none (by omega)]
theorem setO_len {st : List Ob} {i : Nat} {o : Ob} (h : i ≤ st.length) : (setO st i o).length = max st.length (i + 1) := by
  rcases Nat.lt_or_ge i st.length with hlt | hge
  · rw [setO_set hlt]; simp; omega
  · have : i = st.length := by omega
    subst this
    rw [setO_end]; simp

/-- A thing stays what it is, while its block does, and nothing in it is settled. -/
theorem RepO.kept {G' : Gx} {w' : World} {id : Nat} {o : Ob} (h : RepO P G w id o) (hl : liveO (some o) = true ∨ o = .gone) (m : Mono G w G' w') (hs : w.heap.size ≤ w'.heap.size) (hb : ∀ g, G.R id g → w'.heap[g]? = w.heap[g]? ∧ ∀ o, G'.S g o → G.S g o) : RepO P G' w' id o := by
  have els : ∀ g mm sz n f cells, G.R id g → Els G w g mm sz n f cells → Els G' w' g mm sz n f cells := fun g mm sz n f cells hr he =>
    ⟨fun i hi => (he.1 i hi).mono m.gro, fun e o ho => he.2.1 e o ((hb g hr).2 o ho), fun e o ho => m.gro.sub _ _ (he.2.2 e o ho)⟩
  cases o with
  | cel cs =>
    obtain ⟨g, t, cells, hr, hh, hc, hn⟩ := h
    exact ⟨g, t, cells, m.R _ _ hr, (hb g hr).1.trans hh, hc.mono m, fun o ho => hn o ((hb g hr).2 o ho)⟩
  | row mm own sz n f =>
    obtain ⟨hL, h⟩ := h
    refine ⟨m.L _ _ _ hL, ?_⟩
    cases own with
    | none =>
      rcases h with h | ⟨g, t, cells, hr, hh, hle, he⟩
      · exact .inl h
      · exact .inr ⟨g, t, cells, m.R _ _ hr, (hb g hr).1.trans hh, hle, els _ _ _ _ _ _ hr he⟩
    | some e =>
      obtain ⟨hi, v, hT, h⟩ := h
      refine ⟨hi, v, m.T _ _ hT, ?_⟩
      rcases h with h | ⟨g, cap, cells, hv, hr, hh, h1, h2, h3, he⟩
      · exact .inl h
      · exact .inr ⟨g, cap, cells, hv, m.R _ _ hr, (hb g hr).1.trans hh, h1, h2, h3, els _ _ _ _ _ _ hr he⟩
  | map k e gg cnt =>
    obtain ⟨b, hr, ⟨h1, h2, D, hD, hg⟩, hn⟩ := h
    refine ⟨b, m.R _ _ hr, ⟨h1, h2, D, ?_, hg⟩, fun o ho => hn o ((hb b hr).2 o ho)⟩
    obtain ⟨es, clock, hbb, rest⟩ := hD
    exact ⟨es, clock, (hb b hr).1.trans hbb, rest⟩
  | free => rcases hl with hl | hl <;> cases hl
  | gone => trivial

theorem live_of {st : List Ob} {r : Nat} {o : Ob} (h : st[r]? = some o) (hl : liveO (some o) = true) : live st r := by unfold live; rw [h]; exact hl

/-! ### a new thing -/
def pushX (G : Gx) (id : Nat) (b : Option Nat) (v : Option Value) (l : Option (Nat × Nat)) : Gx :=
  ⟨G.S, fun r g => G.R r g ∨ (r = id ∧ b = some g), fun r u => G.T r u ∨ (r = id ∧ v = some u), fun r s n => G.L r s n ∨ (r = id ∧ l = some (s, n))⟩
theorem Mono.push (G : Gx) (w : World) (id b v l) : Mono G w (pushX G id b v l) w := ⟨Gro.refl _ _, fun _ _ h => .inl h, fun _ _ h => .inl h, fun _ _ _ h => .inl h⟩

/-- Only new blocks: all stands as it did. -/
theorem St.grow (h : St P G st w) {w' : World} (hb : Below w.heap.size w w') {S' : Nat → Nat → Prop} (h1 : ∀ b o, G.S b o → S' b o) (h2 : ∀ b o, S' b o → G.S b o ∨ w.heap.size ≤ b) (h3 : ∀ b o, S' b o → b < w'.heap.size) :
    St P { G with S := S' } st w' ∧ Mono G w { G with S := S' } w' ∧ ∀ n, Fr n G w { G with S := S' } w' := by
  have g : Gro G.S w S' w' := ⟨h1, fun b o hs => cell_of_block (hb.block b (h.slt b o hs)) o⟩
  have m : Mono G w { G with S := S' } w' := ⟨g, fun _ _ h => h, fun _ _ h => h, fun _ _ _ h => h⟩
  refine ⟨{ obj := fun id o ho => ?_, rlt := h.rlt, tlt := h.tlt, llt := h.llt, rfun := h.rfun, tfun := h.tfun, lfun := h.lfun, rinj := h.rinj, rold := fun r g hr => Nat.lt_of_lt_of_le (h.rold r g hr) hb.size, slt := h3 }, m, fun n => ?_⟩
  · have hold := h.obj id o ho
    by_cases hl : liveO (some o) = true ∨ o = .gone
    · refine hold.kept hl m hb.size (fun g hr => ⟨hb.block g (h.rold _ _ hr), fun o' ho' => ?_⟩)
      rcases h2 _ _ ho' with x | x
      · exact x
      · have := h.rold _ _ hr; omega
    · cases o <;> first | exact (hl (.inl rfl)).elim | exact (hl (.inr rfl)).elim | exact hold
  · exact ⟨hb.os, hb.tape, hb.output, hb.size, fun k hk _ => hb.block k hk, g, fun b o hs => (h2 b o hs).imp_right .inr, fun r g hr => .inl ⟨r, hr⟩, fun _ _ _ h => h, fun _ _ _ h => h, fun _ _ _ _ h => h⟩

/-- Where a new thing may stand. -/
def Fresh (st : List Ob) (id : Nat) : Prop := id = st.length ∨ st[id]? = some .free
theorem Fresh.le {id : Nat} (h : Fresh st id) : id ≤ st.length := by
  rcases h with h | h
  · omega
  · have := (List.getElem?_eq_some_iff.1 h).1; omega
theorem Fresh.no (h : St P G st w) {id : Nat} (hf : Fresh st id) : (∀ g, ¬ G.R id g) ∧ (∀ v, ¬ G.T id v) ∧ ∀ s n, ¬ G.L id s n := by
  rcases hf with hf | hf
  · subst hf
    exact ⟨fun g hr => Nat.lt_irrefl _ (h.rlt _ _ hr), fun v hr => Nat.lt_irrefl _ (h.tlt _ _ hr), fun s n hr => Nat.lt_irrefl _ (h.llt _ _ _ hr)⟩
  · exact h.obj _ _ hf

theorem live_setO {id r : Nat} {o : Ob} (h : id ≤ st.length) (hl : live (setO st id o) r) : (r = id ∧ liveO (some o) = true) ∨ (r ≠ id ∧ live st r) := by
  unfold live at hl ⊢
  rw [setO_get h] at hl
  split at hl
  · rename_i e; exact .inl ⟨e.symm, hl⟩
  · rename_i e; exact .inr ⟨fun x => e x.symm, hl⟩

/-- A new thing: its block is new, or it has none. -/
theorem St.fill (h : St P G st w) {id : Nat} (hf : Fresh st id) {b : Option Nat} {v : Option Value} {l : Option (Nat × Nat)} {o : Ob} (hb : ∀ g, b = some g → g < w.heap.size ∧ ∀ r, live st r → ¬ G.R r g)
    (ho : RepO P (pushX G id b v l) w id o) (hl : liveO (some o) = true) : St P (pushX G id b v l) (setO st id o) w := by
  obtain ⟨n1, n2, n3⟩ := hf.no h
  have hle := hf.le
  have m := Mono.push G w id b v l
  have hlen := setO_len (o := o) hle
  refine { obj := fun id' o' ho' => ?_, rlt := fun r g hr => ?_, tlt := fun r g hr => ?_, llt := fun r s n hr => ?_, rfun := fun r g g' h1 h2 => ?_, tfun := fun r g g' h1 h2 => ?_, lfun := fun r s n s' n' h1 h2 => ?_, rinj := fun r r' g l1 l2 h1 h2 => ?_, rold := fun r g hr => ?_, slt := h.slt }
  · rw [setO_get hle] at ho'
    split at ho'
    · rename_i e; subst e; injection ho' with e; subst e; exact ho
    · rename_i e
      have hold := h.obj id' o' ho'
      by_cases hl' : liveO (some o') = true ∨ o' = .gone
      · exact hold.kept hl' m (Nat.le_refl _) (fun g hr => ⟨rfl, fun _ h => h⟩)
      · cases o' <;> first | exact (hl' (.inl rfl)).elim | exact (hl' (.inr rfl)).elim | skip
        obtain ⟨k1, k2, k3⟩ := hold
        exact ⟨fun g hr => by rcases hr with hr | ⟨hr, _⟩; exact k1 g hr; exact e hr.symm, fun g hr => by rcases hr with hr | ⟨hr, _⟩; exact k2 g hr; exact e hr.symm, fun s n hr => by rcases hr with hr | ⟨hr, _⟩; exact k3 s n hr; exact e hr.symm⟩
  · rw [hlen]; rcases hr with hr | ⟨rfl, _⟩
    · have := h.rlt _ _ hr; omega
    · omega
  · rw [hlen]; rcases hr with hr | ⟨rfl, _⟩
    · have := h.tlt _ _ hr; omega
    · omega
  · rw [hlen]; rcases hr with hr | ⟨rfl, _⟩
    · have := h.llt _ _ _ hr; omega
    · omega
  · rcases h1 with h1 | ⟨e1, f1⟩ <;> rcases h2 with h2 | ⟨e2, f2⟩
    · exact h.rfun _ _ _ h1 h2
    · subst e2; exact (n1 _ h1).elim
    · subst e1; exact (n1 _ h2).elim
    · rw [f1] at f2; injection f2
  · rcases h1 with h1 | ⟨e1, f1⟩ <;> rcases h2 with h2 | ⟨e2, f2⟩
    · exact h.tfun _ _ _ h1 h2
    · subst e2; exact (n2 _ h1).elim
    · subst e1; exact (n2 _ h2).elim
    · rw [f1] at f2; injection f2
  · rcases h1 with h1 | ⟨e1, f1⟩ <;> rcases h2 with h2 | ⟨e2, f2⟩
    · exact h.lfun _ _ _ _ _ h1 h2
    · subst e2; exact (n3 _ _ h1).elim
    · subst e1; exact (n3 _ _ h2).elim
    · rw [f1] at f2; injection f2 with f2; injection f2 with a b; exact ⟨a, b⟩
  · rcases h1 with h1 | ⟨e1, f1⟩ <;> rcases h2 with h2 | ⟨e2, f2⟩
    · rcases live_setO hle l1 with ⟨a, _⟩ | ⟨_, a⟩
      · subst a; exact (n1 _ h1).elim
      · rcases live_setO hle l2 with ⟨a', _⟩ | ⟨_, a'⟩
        · subst a'; exact (n1 _ h2).elim
        · exact h.rinj _ _ _ a a' h1 h2
    · rcases live_setO hle l1 with ⟨a, _⟩ | ⟨_, a⟩
      · subst a; exact (n1 _ h1).elim
      · exact ((hb _ f2).2 _ a h1).elim
    · rcases live_setO hle l2 with ⟨a, _⟩ | ⟨_, a⟩
      · subst a; exact (n1 _ h2).elim
      · exact ((hb _ f1).2 _ a h2).elim
    · rw [e1, e2]
  · rcases hr with hr | ⟨_, hr⟩
    · exact h.rold _ _ hr
    · exact (hb _ hr).1

/-- A thing is written: only its block is another one. -/
theorem St.write (h : St P G st w) {r b : Nat} {o o' : Ob} (hr : st[r]? = some o) (hlo : liveO (some o) = true) (hR : G.R r b) (hS : ∀ o, ¬ G.S b o) {w' : World} (hos : w'.os = w.os) (htp : w'.tape = w.tape) (hout : w'.output = w.output) (hsz : w.heap.size ≤ w'.heap.size) (hblk : ∀ k, k < w.heap.size → k ≠ b → w'.heap[k]? = w.heap[k]?)
    (ho : Mono G w G w' → RepO P G w' r o') : St P G (setO st r o') w' ∧ Mono G w G w' ∧ ∀ n, Fr n G w G w' := by
  have g : Gro G.S w G.S w' := ⟨fun _ _ h => h, fun b' o hs => cell_of_block (hblk b' (h.slt _ _ hs) (fun e => hS o (e ▸ hs))) o⟩
  have m : Mono G w G w' := ⟨g, fun _ _ h => h, fun _ _ h => h, fun _ _ _ h => h⟩
  have hlt : r < st.length := (List.getElem?_eq_some_iff.1 hr).1
  have hle : r ≤ st.length := by omega
  have hlen := setO_len (o := o') hle
  have hmax : max st.length (r + 1) = st.length := by omega
  have lv : live st r := live_of hr hlo
  have lvs : ∀ r', live (setO st r o') r' → live st r' := fun r' hl' => by
    rcases live_setO hle hl' with ⟨e, _⟩ | ⟨_, e⟩
    · rw [e]; exact lv
    · exact e
  refine ⟨{ obj := fun id' o'' ho' => ?_, rlt := fun r g hr => by rw [hlen, hmax]; exact h.rlt _ _ hr, tlt := fun r g hr => by rw [hlen, hmax]; exact h.tlt _ _ hr, llt := fun r s n hr => by rw [hlen, hmax]; exact h.llt _ _ _ hr, rfun := h.rfun, tfun := h.tfun, lfun := h.lfun, rinj := fun r1 r2 g l1 l2 h1 h2 => h.rinj _ _ _ (lvs _ l1) (lvs _ l2) h1 h2, rold := fun r g hr => Nat.lt_of_lt_of_le (h.rold _ _ hr) hsz, slt := fun b o hs => Nat.lt_of_lt_of_le (h.slt _ _ hs) hsz }, m, fun n => ?_⟩
  · rw [setO_get hle] at ho'
    split at ho'
    · rename_i e; subst e; injection ho' with e; subst e; exact ho m
    · rename_i e
      have hold := h.obj id' o'' ho'
      by_cases hl' : liveO (some o'') = true ∨ o'' = .gone
      · rcases hl' with hl' | hl'
        · refine hold.kept (.inl hl') m (by omega) (fun g hg => ⟨hblk g (h.rold _ _ hg) (fun eg => ?_), fun _ h => h⟩)
          subst eg
          exact e (h.rinj _ _ _ lv (live_of ho' hl') hR hg)
        · subst hl'; trivial
      · cases o'' <;> first | exact (hl' (.inl rfl)).elim | exact (hl' (.inr rfl)).elim | exact hold
  · exact ⟨hos, htp, hout, hsz, fun k hk hn => hblk k hk (fun e => hn r (e ▸ hR)), g, fun b o hs => .inl hs, fun r g hr => .inl ⟨r, hr⟩, fun _ _ _ h => h, fun _ _ _ h => h, fun _ _ _ _ h => h⟩

/-- A thing is let go. -/
theorem St.gone (h : St P G st w) {r : Nat} {o : Ob} (hr : st[r]? = some o) (hlo : liveO (some o) = true) : St P G (setO st r .gone) w := by
  have hlt : r < st.length := (List.getElem?_eq_some_iff.1 hr).1
  have hle : r ≤ st.length := by omega
  have hlen := setO_len (o := Ob.gone) hle
  have hmax : max st.length (r + 1) = st.length := by omega
  have lvs : ∀ r', live (setO st r .gone) r' → live st r' := fun r' hl' => by
    rcases live_setO hle hl' with ⟨_, e⟩ | ⟨_, e⟩
    · cases e
    · exact e
  refine { obj := fun id' o'' ho' => ?_, rlt := fun r g hr => by rw [hlen, hmax]; exact h.rlt _ _ hr, tlt := fun r g hr => by rw [hlen, hmax]; exact h.tlt _ _ hr, llt := fun r s n hr => by rw [hlen, hmax]; exact h.llt _ _ _ hr, rfun := h.rfun, tfun := h.tfun, lfun := h.lfun, rinj := fun r1 r2 g l1 l2 h1 h2 => h.rinj _ _ _ (lvs _ l1) (lvs _ l2) h1 h2, rold := h.rold, slt := h.slt }
  rw [setO_get hle] at ho'
  split at ho'
  · injection ho' with e; subst e; trivial
  · exact h.obj id' o'' ho'
end
end Go.Eng
end

section
namespace Go.Eng
open Go.RowKit
set_option linter.unusedVariables false
set_option linter.unusedSimpArgs false

def OpX {β : Type} (P : Program) (G : Gx) (st : List Ob) (w : World) (K : KO β) (r : β) (o : Oper) (a : Act) : Act → World → Prop := fun a' w' =>
  ∃ hv v W rd G', K hv W rd = some r ∧ a' = a.put o.dst v ∧ St P G' (appl st W) w' ∧ Mono G w G' w' ∧ (∀ n, Fr n G w G' w') ∧ RepX G' w' hv v
def RepE2 (G : Gx) (w : World) (e : List HV) (a : Act) : Prop := e.length = a.tmps.size ∧ ∀ i, RepX G w (e.getD i .undef) (a.tmps.getD i Go.undef)
theorem RepE2.mono {G w G' w' e a} (m : Mono G w G' w') (h : RepE2 G w e a) : RepE2 G' w' e a := ⟨h.1, fun i => (h.2 i).mono m⟩

section
variable {β : Type} {P : Program} {G : Gx} {st : List Ob} {w : World} {K : KO β} {r : β} {o : Oper} {a : Act} {Q : Exit → Act → World → Prop} {e : List HV}

theorem RepE2.ev (k : RepE2 G w e a) (x : Operand) : RepX G w (ev e x) (a.eval x) := by
  cases x with
  | tmp t => exact k.2 t
  | const v => rcases RepC.cst (S := G.S) (w := w) v with h | h
               · simp only [Eng.ev, h]; exact .undef _
               · exact .cl _ _ h
  | global g => exact .undef _
  | func f => exact .cl _ _ (.fn f [] [] .nil)
theorem RepE2.putE (k : RepE2 G w e a) (d : Option Nat) {h : HV} {v : Value} (hv : RepX G w h v) : RepE2 G w (putE e d h) (a.put d v) := by
  cases d with
  | none => exact k
  | some d =>
    refine ⟨by simpa [Act.put, Eng.putE] using k.1, fun i => ?_⟩
    simp only [Act.put, Eng.putE]
    rw [List.getD_eq_getElem?_getD, List.getElem?_set]
    have hg : (a.tmps.setIfInBounds d v).getD i Go.undef = if d = i ∧ d < a.tmps.size then v else a.tmps.getD i Go.undef := by
      simp only [Array.getD_eq_getD_getElem?, Array.getElem?_setIfInBounds]
      by_cases hdi : d = i
      · subst hdi
        by_cases hlt : d < a.tmps.size
        · simp [hlt]
        · simp [hlt]
      · simp [hdi]
    rw [hg]
    by_cases hdi : d = i
    · subst hdi
      by_cases hlt : d < a.tmps.size
      · simp [hlt, k.1, hv]
      · simp [hlt, k.1, RepX.undef]
    · have := k.2 i
      rw [List.getD_eq_getElem?_getD] at this
      simpa [hdi] using this

theorem opx_pure (hI : St P G st w) {hv : HV} {v : Value} {rd : List Nat} (hrun : (execOp a.eval o).run P w = .ok (.value v) w) (hK : K hv [] rd = some r) (hv' : RepX G w hv v) : o.wp P a w (OpX P G st w K r o a) Q :=
  wp_val hrun ⟨hv, v, [], rd, G, hK, rfl, hI, Mono.refl _ _, fun n => Fr.refl n _ _, hv'⟩

/-! ### what the first interpreter does -/
theorem RepC.of_cloD : ∀ (d : Nat) {h : HV} {v : Value}, cloD d h = true → RepX G w h v → RepC G.S w h v := by
  intro d
  induction d with
  | zero => intro h v hc _; cases hc
  | succ d ih =>
    intro h v hc hr
    have lst : ∀ {hs : List HV} {vs : List Value}, hs.all (cloD d) = true → RepXs G w hs vs → RepCs G.S w hs vs := by
      intro hs
      induction hs with
      | nil => intro vs _ k; cases k; exact .nil
      | cons x xs ih2 =>
        intro vs hall k
        simp only [List.all_cons, Bool.and_eq_true] at hall
        cases k with | cons _ v _ vs h h1 hs => exact .cons _ _ _ _ (ih hall.1 h) h1 (ih2 hall.2 hs)
    cases hr with
    | undef => cases hc
    | cl _ _ k => exact k
    | fn f cs vs k => exact .fn f cs vs (lst hc k)
    | agg cs cells k => exact .agg cs cells (lst hc k)
    | _ => cases hc
theorem RepTs.of_cloD {d : Nat} : ∀ {hs : List HV} {vs : List Value}, hs.all (cloD d) = true → RepXt G w hs vs → RepTs G.S w hs vs := by
  intro hs
  induction hs with
  | nil => intro vs _ k; cases k; exact .nil
  | cons x xs ih2 =>
    intro vs hall k
    simp only [List.all_cons, Bool.and_eq_true] at hall
    cases k with | cons _ v _ vs h hs => exact .cons _ _ _ _ (RepC.of_cloD d hall.1 h) (ih2 hall.2 hs)

def g0 (G : Gx) : Gh := ⟨G.S, fun _ _ => False, fun _ _ => False⟩
theorem cloT_rep {h : HV} {v : Value} (hc : cloT h = true) (hr : RepX G w h v) : RepV (g0 G) w h v := by
  unfold cloT at hc
  split at hc
  · trivial
  · obtain ⟨us, rfl, k⟩ := hr.tup_inv
    exact ⟨us, rfl, RepTs.of_cloD hc k⟩
  · exact RepV.of (RepC.of_cloD 4 hc hr)
theorem RepX.of_v {G' : Gh} {w' : World} {h : HV} {v : Value} {X : Gx} (hS : X.S = G'.S) (hR : ∀ r g, ¬ G'.R r g) (hT : ∀ r v, ¬ G'.T r v) (k : RepV G' w' h v) : RepX X w' h v := by
  cases h with
  | undef => exact .undef _
  | own t sz n f => exact (hT _ _ k.1).elim
  | arr r sz lo n => obtain ⟨b, A, c, h1, _⟩ := k; exact (hR _ _ h1).elim
  | var r off => obtain ⟨b, h1, _⟩ := k; exact (hR _ _ h1).elim
  | elt r sz i off => obtain ⟨b, h1, _⟩ := k; exact (hR _ _ h1).elim
  | tup hs => obtain ⟨us, rfl, h2⟩ := k; rw [← hS] at h2; exact .tup _ _ (.ofT h2)
  | mp r => exact k.elim
  | ow r => exact k.elim
  | nl s z => exact k.elim
  | _ => exact .cl _ _ (by rw [hS]; exact k)

theorem op_fall {C : Cfg2} (hCP : C.P = P) (hC : CallOk P C.call) (hI : St P G st w) (hE : RepE2 G w e a) (hcl : (o.op.operands.toList.all fun x => cloT (ev e x)) = true) (hk : (evOp ⟨C.P, C.call⟩ true o e [] fun v _ _ => K v [] []) = some r) : o.wp P a w (OpX P G st w K r o a) Q := by
  subst hCP
  let f : HV → HV := fun h => cond (cloT h) h .undef
  have hE1 : RepE (g0 G) w (e.map f) a := by
    refine ⟨by simpa using hE.1, fun i => ?_⟩
    have h1 := hE.2 i
    rw [List.getD_eq_getElem?_getD, List.getElem?_map]
    rw [List.getD_eq_getElem?_getD] at h1
    cases hh : e[i]? with
    | none => trivial
    | some x =>
      rw [hh] at h1
      simp only [Option.map_some, Option.getD_some] at h1 ⊢
      cases hc : cloT x with
      | false => simp only [f, hc, cond_false]; trivial
      | true => simp only [f, hc, cond_true]; exact cloT_rep hc h1
  have hev : ∀ x ∈ o.op.operands, ev e x = ev (e.map f) x := by
    intro x hx
    have hc := List.all_eq_true.1 hcl x (by simpa using hx)
    cases x with
    | tmp t =>
      simp only [ev] at hc ⊢
      rw [List.getD_eq_getElem?_getD] at hc ⊢
      rw [List.getD_eq_getElem?_getD, List.getElem?_map]
      cases hh : e[t]? with
      | none => rfl
      | some y =>
        rw [hh] at hc
        simp only [Option.getD_some] at hc
        simp only [Option.map_some, Option.getD_some, f, hc, cond_true]
    | _ => rfl
  rw [evOp_q, valQ_congr hev, ← evOp_q ⟨C.P, C.call⟩ o (e.map f) [] (fun v _ _ => K v [] [])] at hk
  have hIs := Inv.start C.P w G.S hI.slt
  refine Oper.wp_mono ?_ (evOp_sound (C := ⟨C.P, C.call⟩) rfl hC hIs hE1 hk)
  rintro a' w' ⟨hv, v, e', st', G', h1, h2, h3, h4, h5, h6, h7⟩
  obtain ⟨_, _, hR, hT⟩ := h6 rfl
  obtain ⟨k1, k2, k3⟩ := hI.grow h3.below (S' := G'.S) h3.s0 h3.snew h3.slt
  refine ⟨hv, v, [], [], _, h1, h2, k1, k2, k3, ?_⟩
  exact RepX.of_v (G' := G') rfl (fun r g h => by rw [hR] at h; exact h) (fun r u h => by rw [hT] at h; exact h) h5

/-! ### loads -/
theorem run_loadX {t : TypeId} {cs : List HV} {off : Nat} {cells : List Value} {ad : Addr} {K : HV → Option β} (hk : loadC P t cs off K = some r) (hc : RepXs G w cs cells)
    (hcell : ∀ j u, cells[j]? = some u → w.cell? (ad.add j) = some u) : ∃ hv u, K hv = some r ∧ RepX G w hv u ∧ (loadVar t (ad.add off)).run P w = .ok u w := by
  have hadd : ∀ j, (ad.add off).add j = ad.add (off + j) := fun j => by unfold Addr.add; by_cases h1 : off = 0 <;> by_cases h2 : j = 0 <;> simp_all [Nat.add_assoc]
  unfold loadC at hk
  split at hk
  · rename_i n ha hs
    obtain ⟨hle, hk⟩ := br_none hk
    simp only [decide_eq_true_eq] at hle
    refine ⟨_, _, hk, .agg _ _ ((hc.drop off).take n), ?_⟩
    unfold aggT at ha
    unfold szT at hs
    have hagg : (isAgg t).run P w = .ok true w := by
      unfold isAgg
      split at ha <;> first | (rename_i hu; simp [run_underlying hu]; done) | simp at ha
    cases hi : P.info? t with
    | none => rw [hi] at hs; cases hs
    | some i =>
      rw [hi] at hs
      simp only [Option.some.injEq] at hs
      unfold loadVar
      have hlen : ((cells.drop off).take n).length = n := by have := hc.length; simp; omega
      have hl := run_loadCells_list (P := P) (w := w) (ad.add off) ((cells.drop off).take n) (fun j u hj => by
        rw [hadd]
        apply hcell
        rw [List.getElem?_take] at hj
        split at hj
        · rw [List.getElem?_drop] at hj; exact hj
        · cases hj)
      rw [hlen] at hl
      simp [hagg, sizeOf, typeInfo, hi, hs, hl]
  · rename_i n ha hs
    split at hk
    · rename_i x hx
      obtain ⟨u, hu, hr, _⟩ := hc.at hx
      refine ⟨_, u, hk, hr, ?_⟩
      unfold aggT at ha
      have hagg : (isAgg t).run P w = .ok false w := by
        unfold isAgg
        split at ha <;> first | simp at ha | skip
        rename_i d hd1 hd2 hu
        simp only [Sem.run_bind, run_underlying hu, Result.andThen_ok]
        cases d <;> first | rfl | exact (hd1 _ hu).elim | exact (hd2 _ _ hu).elim
      unfold loadVar
      simp [hagg, hcell off u hu]
    · cases hk
  · cases hk
theorem loadE_C {t : TypeId} {cs : List HV} {off : Nat} {K : HV → Option β} (hk : loadE P t cs off K = some r) (hs : (szT P t).isSome = true) : loadC P t cs off K = some r := by
  have fin : ∀ d, P.underlying t = some d → (match d with | .struct _ => False | .array _ _ => False | _ => True) → ∀ v, cs[off]? = some v → K v = some r → loadC P t cs off K = some r := by
    intro d hd hn v hv hK
    obtain ⟨n, hs⟩ := Option.isSome_iff_exists.1 hs
    unfold loadC
    have : aggT P t = some false := by unfold aggT; rw [hd]; cases d <;> first | rfl | exact hn.elim
    rw [this, hs]
    simp only [hv]
    exact hK
  unfold loadE at hk
  split at hk
  · rename_i hu; obtain ⟨b, h1, h2⟩ := bndB_eq hk; exact fin _ hu trivial _ h1 h2
  · rename_i hu; obtain ⟨b, h1, h2⟩ := bndI_eq hk; exact fin _ hu trivial _ h1 h2
  · rename_i hu; obtain ⟨b, h1, h2⟩ := bndS_eq hk; exact fin _ hu trivial _ h1 h2
  · exact hk

theorem opx_load_var {t : TypeId} {x : Operand} {r' off : Nat} {cs : List HV} (ho : o.op = .load t x) (hI : St P G st w) (hv : RepX G w (.var r' off) (a.eval x)) (hs : st[r']? = some (.cel cs)) (hk : loadC P t cs off (fun v => K v [] [r']) = some r) : o.wp P a w (OpX P G st w K r o a) Q := by
  obtain ⟨g, hR, he⟩ := hv.var_inv
  obtain ⟨g', t', cells, hR', hh, hc, _⟩ := hI.obj _ _ hs
  obtain rfl := hI.rfun _ _ _ hR hR'
  obtain ⟨hv, u, h1, h2, h3⟩ := run_loadX (w := w) (ad := ⟨g, 0, none⟩) hk hc (fun j u hj => by rw [addr_add, cell_at_block hh, Nat.zero_add]; simpa using hj)
  rw [addr_add, Nat.zero_add] at h3
  exact opx_pure hI (v := u) (by simp [execOp, ho, he, Instr.loadAt, Instr.sureAddr, h3]) h1 h2

/-- A row's elements stand where they stand. -/
theorem RepO.elem {id sz n : Nat} {m : Bool} {own : Option Nat} {f : Nat → List HV} (h : RepO P G w id (.row m own sz n f)) {i : Nat} (hi : i < n) : ∃ g t cells, G.R id g ∧ w.heap[g]? = some (.cells cells t (0, 0)) ∧ n * sz ≤ cells.size ∧ Els G w g m sz n f cells := by
  obtain ⟨_, h⟩ := h
  cases own with
  | none =>
    rcases h with h | h
    · omega
    · exact h
  | some e =>
    obtain ⟨_, v, _, h⟩ := h
    rcases h with ⟨h, _⟩ | ⟨g, cap, cells, _, hr, hh, h1, _, h3, he⟩
    · omega
    · exact ⟨g, e, cells, hr, hh, by rw [h3]; exact Nat.mul_le_mul_right _ h1, he⟩
theorem opx_load_elt {t : TypeId} {x : Operand} {r' sz i off : Nat} {m : Bool} {own : Option Nat} {sz' n : Nat} {f : Nat → List HV} (ho : o.op = .load t x) (hI : St P G st w) (hv : RepX G w (.elt r' sz i off) (a.eval x)) (hs : st[r']? = some (.row m own sz' n f)) (hk : loadE P t (f i) off (fun v => K v [] [r']) = some r) (ht : (szT P t).isSome = true) :
    o.wp P a w (OpX P G st w K r o a) Q := by
  obtain ⟨g, n', hR, hL, hi, he⟩ := hv.elt_inv
  have hob := hI.obj _ _ hs
  obtain ⟨rfl, rfl⟩ := hI.lfun _ _ _ _ _ hL hob.1
  obtain ⟨g', t', cells, hR', hh, hle, hels⟩ := hob.elem hi
  obtain rfl := hI.rfun _ _ _ hR hR'
  obtain ⟨hv, u, h1, h2, h3⟩ := run_loadVar (w := w) (ad := ⟨g, i * sz, none⟩) (loadE_C hk ht) (hels.1 i hi) (fun j u hj => by
    rw [addr_add, cell_at_block hh]
    rw [List.getElem?_take] at hj
    split at hj
    · rw [List.getElem?_drop] at hj; simpa using hj
    · cases hj)
  rw [addr_add] at h3
  exact opx_pure hI (v := u) (by simp [execOp, ho, he, Instr.loadAt, Instr.sureAddr, h3]) h1 (.cl _ _ h2)
end
end Go.Eng
end

section
namespace Go.Eng
open Go.RowKit
set_option linter.unusedVariables false
set_option linter.unusedSimpArgs false

section
variable {β : Type} {P : Program} {G : Gx} {st : List Ob} {w : World} {r : β} {o : Oper} {a : Act} {Q : Exit → Act → World → Prop} {e : List HV}

theorem appl_append (W W' : Wr) : ∀ st, appl st (W ++ W') = appl (appl st W) W' := by
  induction W with
  | nil => intro st; rfl
  | cons x W ih => intro st; obtain ⟨i, o⟩ := x; exact ih _

/-- A row is settled. -/
theorem St.freeze (h : St P G st w) {id : Nat} {m : Bool} {own : Option Nat} {sz n : Nat} {f : Nat → List HV} (hr : st[id]? = some (.row m own sz n f)) :
    ∃ S', St P { G with S := S' } (setO st id (.row false own sz n f)) w ∧ Mono G w { G with S := S' } w ∧ (∀ k, Fr k G w { G with S := S' } w) ∧
      ∀ i, i < n → ∃ g t cells, G.R id g ∧ w.heap[g]? = some (.cells cells t (0, 0)) ∧ n * sz ≤ cells.size ∧ RepCs S' w (f i) ((cells.toList.drop (i * sz)).take sz) ∧ ∀ o, o < n * sz → S' g o := by
  have hob := h.obj _ _ hr
  have hlt : id < st.length := (List.getElem?_eq_some_iff.1 hr).1
  have hle : id ≤ st.length := by omega
  have hlen := setO_len (o := Ob.row false own sz n f) hle
  have hmax : max st.length (id + 1) = st.length := by omega
  have lv : live st id := live_of hr rfl
  have lvs : ∀ r', live (setO st id (.row false own sz n f)) r' → live st r' := fun r' hl' => by
    rcases live_setO hle hl' with ⟨e, _⟩ | ⟨_, e⟩
    · rw [e]; exact lv
    · exact e
  rcases Nat.eq_zero_or_pos n with hn | hn
  · subst hn
    refine ⟨G.S, { obj := fun id' o'' ho' => ?_, rlt := fun r g hr => by rw [hlen, hmax]; exact h.rlt _ _ hr, tlt := fun r g hr => by rw [hlen, hmax]; exact h.tlt _ _ hr, llt := fun r s n hr => by rw [hlen, hmax]; exact h.llt _ _ _ hr, rfun := h.rfun, tfun := h.tfun, lfun := h.lfun, rinj := fun r1 r2 g l1 l2 h1 h2 => h.rinj _ _ _ (lvs _ l1) (lvs _ l2) h1 h2, rold := h.rold, slt := h.slt }, Mono.refl _ _, fun k => Fr.refl _ _ _, fun i hi => by omega⟩
    rw [setO_get hle] at ho'
    split at ho'
    · rename_i e; subst e; injection ho' with e; subst e
      refine ⟨hob.1, ?_⟩
      cases own with
      | none => exact .inl rfl
      | some e =>
        obtain ⟨_, hi, v, hT, hv⟩ := hob
        refine ⟨hi, v, hT, ?_⟩
        rcases hv with hv | ⟨g, cap, cells, h1, h2, h3, h4, h5, h6, _, h7, h8⟩
        · exact .inl hv
        · cases m with
          | true => exact .inr ⟨g, cap, cells, h1, h2, h3, h4, h5, h6, fun i hi => by omega, (fun e => by cases e), fun _ o ho => by omega⟩
          | false => exact .inr ⟨g, cap, cells, h1, h2, h3, h4, h5, h6, fun i hi => by omega, (fun e => by cases e), fun _ o ho => by omega⟩
    · exact h.obj id' o'' ho'
  · obtain ⟨g, t, cells, hR, hh, hsz, hels⟩ := hob.elem hn
    let S' : Nat → Nat → Prop := fun b o => G.S b o ∨ (b = g ∧ o < n * sz)
    have gr : Gro G.S w S' w := ⟨fun _ _ h => .inl h, fun _ _ _ => rfl⟩
    have m' : Mono G w { G with S := S' } w := ⟨gr, fun _ _ h => h, fun _ _ h => h, fun _ _ _ h => h⟩
    have hels' : Els { G with S := S' } w g false sz n f cells := ⟨fun i hi => (hels.1 i hi).mono gr, (fun e => by cases e), fun _ o ho => .inr ⟨rfl, ho⟩⟩
    refine ⟨S', { obj := fun id' o'' ho' => ?_, rlt := fun r g hr => by rw [hlen, hmax]; exact h.rlt _ _ hr, tlt := fun r g hr => by rw [hlen, hmax]; exact h.tlt _ _ hr, llt := fun r s n hr => by rw [hlen, hmax]; exact h.llt _ _ _ hr, rfun := h.rfun, tfun := h.tfun, lfun := h.lfun, rinj := fun r1 r2 g l1 l2 h1 h2 => h.rinj _ _ _ (lvs _ l1) (lvs _ l2) h1 h2, rold := h.rold, slt := fun b o hs => ?_ }, m', fun k => ⟨rfl, rfl, rfl, Nat.le_refl _, fun _ _ _ => rfl, gr, fun b o hs => ?_, fun r g hr => .inl ⟨r, hr⟩, fun _ _ _ h => h, fun _ _ _ h => h, fun _ _ _ _ h => h⟩, fun i hi => ⟨g, t, cells, hR, hh, hsz, hels'.1 i hi, hels'.2.2 rfl⟩⟩
    · rw [setO_get hle] at ho'
      split at ho'
      · rename_i e; subst e; injection ho' with e; subst e
        refine ⟨hob.1, ?_⟩
        cases own with
        | none => exact .inr ⟨g, t, cells, hR, hh, hsz, hels'⟩
        | some e =>
          obtain ⟨_, hi, v, hT, hv⟩ := hob
          refine ⟨hi, v, hT, ?_⟩
          rcases hv with ⟨hv, _⟩ | ⟨g2, cap, cells2, h1, h2, h3, h4, h5, h6, h7⟩
          · omega
          · obtain rfl := h.rfun _ _ _ hR h2
            rw [hh] at h3
            injection h3 with h3
            injection h3 with h3 h3' h3''
            subst h3 h3'
            exact .inr ⟨g, cap, cells, h1, h2, hh, h4, h5, h6, hels'⟩
      · rename_i e
        have hold := h.obj id' o'' ho'
        by_cases hl' : liveO (some o'') = true ∨ o'' = .gone
        · rcases hl' with hl' | hl'
          · refine hold.kept (.inl hl') m' (Nat.le_refl _) (fun g2 hg => ⟨rfl, fun o ho => ?_⟩)
            rcases ho with ho | ⟨ho, _⟩
            · exact ho
            · subst ho; exact (e (h.rinj _ _ _ lv (live_of ho' hl') hR hg)).elim
          · subst hl'; trivial
        · cases o'' <;> first | exact (hl' (.inl rfl)).elim | exact (hl' (.inr rfl)).elim | exact hold
    · rcases hs with hs | ⟨e, _⟩
      · exact h.slt _ _ hs
      · subst e; exact h.rold _ _ hR
    · rcases hs with hs | ⟨e, _⟩
      · exact .inl hs
      · subst e; exact .inr (.inl ⟨id, hR⟩)

/-- The same things, some of them settled meanwhile. -/
def Sim (st st1 : List Ob) : Prop := st1.length = st.length ∧ (∀ (r : Nat) m own sz n f, st[r]? = some (.row m own sz n f) → (∃ m', st1[r]? = some (.row m' own sz n f))) ∧ ∀ (r : Nat), st[r]? = some .free → st1[r]? = some .free
theorem Sim.refl (st : List Ob) : Sim st st := ⟨rfl, fun r m _ _ _ _ h => ⟨m, h⟩, fun _ h => h⟩
theorem Sim.freeze {st st1 : List Ob} (h : Sim st st1) {id : Nat} {m own sz n f} (hr : st[id]? = some (.row m own sz n f)) : Sim st (setO st1 id (.row false own sz n f)) := by
  have hlt : id < st1.length := by rw [h.1]; exact (List.getElem?_eq_some_iff.1 hr).1
  have hle : id ≤ st1.length := by omega
  refine ⟨by rw [setO_len hle, ← h.1]; omega, fun r m2 own2 sz2 n2 f2 h2 => ?_, fun r h2 => ?_⟩
  · rw [setO_get hle]
    split
    · rename_i e; subst e
      rw [hr] at h2
      cases h2
      exact ⟨false, rfl⟩
    · exact h.2.1 _ _ _ _ _ _ h2
  · rw [setO_get hle, if_neg (fun e => by subst e; rw [hr] at h2; cases h2)]
    exact h.2.2 _ h2

theorem close_row {st1 : List Ob} {id : Nat} {m : Bool} {own : Option Nat} {sz n : Nat} {f : Nat → List HV} (hI : St P G st1 w) (hs : Sim st st1) (hr : st[id]? = some (.row m own sz n f)) :
    ∃ G', St P G' (setO st1 id (.row false own sz n f)) w ∧ Sim st (setO st1 id (.row false own sz n f)) ∧ Mono G w G' w ∧ (∀ k, Fr k G w G' w) ∧
      ∀ (A : Option Addr) (lo k c : Nat), lo + k ≤ n → k ≤ c → (0 < k → ∃ g, G.R id g ∧ A = some ⟨g, lo * sz, none⟩) → RepC G'.S w (.lst sz k (fun i => f (lo + i))) (.slice A k c) := by
  obtain ⟨m', h1⟩ := hs.2.1 _ _ _ _ _ _ hr
  obtain ⟨S', k1, k2, k3, k4⟩ := hI.freeze h1
  refine ⟨_, k1, hs.freeze hr, k2, k3, fun A lo k c hlo hc hA => ?_⟩
  rcases Nat.eq_zero_or_pos k with hk | hk
  · subst hk; exact .lst sz 0 _ A c (fun _ => []) (fun i hi => by omega) (fun i hi => by omega) (fun i hi => by omega) (by omega)
  · obtain ⟨g, hg, rfl⟩ := hA hk
    obtain ⟨g2, t, cells, hR, hh, hsz, _, hS⟩ := k4 lo (by omega)
    obtain rfl := hI.rfun _ _ _ hg hR
    have hsub : ∀ i, i < n → (i + 1) * sz ≤ n * sz := fun i hi => Nat.mul_le_mul_right _ hi
    refine .lst sz k _ _ c (fun i => (cells.toList.drop ((lo + i) * sz)).take sz) (fun i hi => ?_) (fun i hi => ?_) (fun i hi => ?_) hc
    · obtain ⟨g3, t3, cells3, hR3, hh3, _, h5, _⟩ := k4 (lo + i) (by omega)
      obtain rfl := hI.rfun _ _ _ hg hR3
      rw [hh] at hh3; cases hh3
      exact h5
    · have := hsub (lo + i) (by omega)
      rw [Nat.add_mul, Nat.one_mul] at this
      simp; omega
    · have hb := hsub (lo + i) (by omega)
      rw [Nat.add_mul, Nat.one_mul] at hb
      intro j u hj
      refine ⟨_, rfl, ?_, ?_⟩
      · rw [addr_add, cell_at_block hh]
        rw [List.getElem?_take] at hj
        split at hj
        · rw [List.getElem?_drop, Array.getElem?_toList] at hj
          rw [← hj, Nat.add_mul]; congr 1; omega
        · cases hj
      · have hjl : j < sz := by
          rw [List.getElem?_take] at hj
          split at hj
          · assumption
          · cases hj
        exact hS _ (by simp only [Nat.add_mul] at hb ⊢; omega)

/-- What a list of rows holds. -/
theorem RowAt.slice {id : Nat} {m : Bool} {e sz n : Nat} {f : Nat → List HV} {v : Value} (hI : St P G st w) (h : RowAt P G w id m (some e) sz n f) (hv : G.T id v) : ∃ A c, v = .slice A n c ∧ n ≤ c ∧ (0 < n → ∃ g, G.R id g ∧ A = some ⟨g, 0, none⟩) := by
  obtain ⟨_, v', hT, h⟩ := h
  obtain rfl := hI.tfun _ _ _ hv hT
  rcases h with ⟨rfl, A, rfl⟩ | ⟨g, cap, cells, rfl, hR, _, h1, _⟩
  · exact ⟨A, 0, rfl, Nat.le_refl _, fun h => by omega⟩
  · exact ⟨_, cap, rfl, h1, fun _ => ⟨g, hR, rfl⟩⟩
theorem ow_slice {id : Nat} {m : Bool} {own : Option Nat} {sz n : Nat} {f : Nat → List HV} {v : Value} (hI : St P G st w) (hr : st[id]? = some (.row m own sz n f)) (hown : own.isSome = true) (hv : G.T id v) : ∃ A c, v = .slice A n c ∧ n ≤ c ∧ (0 < n → ∃ g, G.R id g ∧ A = some ⟨g, 0, none⟩) := by
  cases own with
  | none => cases hown
  | some e => exact RowAt.slice hI (hI.obj _ _ hr).2 hv

theorem closeK_sound (d : Nat) : ∀ {h : HV} {K : HV → Wr → Option β} {v : Value} {G : Gx} {st1 : List Ob}, St P G st1 w → Sim st st1 → RepX G w h v → closeK st d h K = some r →
    ∃ c W G', K c W = some r ∧ St P G' (appl st1 W) w ∧ Sim st (appl st1 W) ∧ Mono G w G' w ∧ (∀ n, Fr n G w G' w) ∧ RepC G'.S w c v := by
  induction d with
  | zero => intro h K v G st1 _ _ _ hk; cases hk
  | succ d ih =>
    intro h K v G st1 hI hs hv hk
    have lst : ∀ {hs' : List HV} {vs : List Value} {K : List HV → Wr → Option β} {G : Gx} {st1 : List Ob}, St P G st1 w → Sim st st1 → RepXs G w hs' vs → closeKs (closeK st d) hs' K = some r →
        ∃ cs W G', K cs W = some r ∧ St P G' (appl st1 W) w ∧ Sim st (appl st1 W) ∧ Mono G w G' w ∧ (∀ n, Fr n G w G' w) ∧ RepCs G'.S w cs vs := by
      intro hs'
      induction hs' with
      | nil => intro vs K G st1 hI hs hv hk; cases hv; exact ⟨[], [], G, hk, hI, hs, Mono.refl _ _, fun n => Fr.refl _ _ _, .nil⟩
      | cons x xs ih2 =>
        intro vs K G st1 hI hs hv hk
        cases hv with | cons _ v _ vs h h1 hvs =>
        obtain ⟨c, W, G1, k1, k2, k3, k4, k5, k6⟩ := ih hI hs h hk
        obtain ⟨cs, W', G2, j1, j2, j3, j4, j5, j6⟩ := ih2 k2 k3 (hvs.mono k4) k1
        exact ⟨c :: cs, W ++ W', G2, j1, by rw [appl_append]; exact j2, by rw [appl_append]; exact j3, k4.trans j4, fun n => (k5 n).trans (j5 n), .cons _ _ _ _ (k6.mono j4.gro) h1 j6⟩
    unfold closeK at hk
    split at hk
    · cases hv.nl_inv
      exact ⟨_, [], G, hk, hI, hs, Mono.refl _ _, fun n => Fr.refl _ _ _, .lst _ 0 _ none 0 (fun _ => []) (fun i hi => by omega) (fun i hi => by omega) (fun i hi => by omega) (Nat.le_refl _)⟩
    · rename_i r'
      split at hk
      · rename_i m own sz n f hr
        obtain ⟨m', h1⟩ := hs.2.1 _ _ _ _ _ _ hr
        obtain ⟨hT, A, n', c, rfl⟩ := hv.ow_inv
        obtain ⟨G', k1, k2, k3, k4, k5⟩ := close_row hI hs hr
        obtain ⟨A', c', hv', hc, hA⟩ := ow_slice hI h1 rfl hT
        cases hv'
        have := k5 A 0 n c (by omega) hc (fun h => by simpa using hA h)
        simp only [Nat.zero_add] at this
        exact ⟨_, _, G', hk, k1, k2, k3, k4, this⟩
      · cases hk
    · rename_i r' sz lo n
      split at hk
      · rename_i m own sz' n' f hr
        obtain ⟨m', h1⟩ := hs.2.1 _ _ _ _ _ _ hr
        obtain ⟨A, c, n2, rfl, hL, hlo, hc, hA⟩ := hv.arr_inv
        obtain ⟨rfl, rfl⟩ := hI.lfun _ _ _ _ _ hL (hI.obj _ _ h1).1
        obtain ⟨G', k1, k2, k3, k4, k5⟩ := close_row hI hs hr
        exact ⟨_, _, G', hk, k1, k2, k3, k4, k5 A lo n c hlo hc hA⟩
      · cases hk
    · rename_i f cs
      obtain ⟨vs, rfl, hvs⟩ := hv.fn_inv
      obtain ⟨cs', W, G', k1, k2, k3, k4, k5, k6⟩ := lst hI hs hvs hk
      exact ⟨_, W, G', k1, k2, k3, k4, k5, .fn f cs' vs k6⟩
    · rename_i cs
      obtain ⟨vs, rfl, hvs⟩ := hv.agg_inv
      obtain ⟨cs', W, G', k1, k2, k3, k4, k5, k6⟩ := lst hI hs hvs hk
      exact ⟨_, W, G', k1, k2, k3, k4, k5, .agg cs' vs k6⟩
    all_goals first | (cases hk; done) | skip
    rename_i n1 n2 n3 n4 n5 n6 n7 n8 n9 n10 n11
    refine ⟨_, [], G, hk, hI, hs, Mono.refl _ _, fun n => Fr.refl _ _ _, ?_⟩
    cases hv with
    | cl _ _ k => exact k
    | undef => exact (n6 rfl).elim
    | nl sz z => exact (n1 _ _ rfl).elim
    | var r off g h => exact (n8 _ _ rfl).elim
    | elt r sz i off g n h hl hi => exact (n9 _ _ _ _ rfl).elim
    | arr r sz lo n A c m hl hn hc h => exact (n3 _ _ _ _ rfl).elim
    | ow r A n c h => exact (n2 _ rfl).elim
    | mp r g h => exact (n10 _ rfl).elim
    | fn f cs vs h => exact (n4 _ _ rfl).elim
    | agg cs cells h => exact (n5 _ rfl).elim
    | tup hs us h => exact (n11 _ rfl).elim
end
end Go.Eng
end

section
namespace Go.Eng
open Go.RowKit
set_option linter.unusedVariables false
set_option linter.unusedSimpArgs false

section
variable {β : Type} {P : Program} {G : Gx} {st : List Ob} {w : World} {K : KO β} {r : β} {o : Oper} {a : Act} {Q : Exit → Act → World → Prop} {e : List HV}

theorem nlT_rep {t : TypeId} {h : HV} {v : Value} (k : RepX G w h v) : RepX G w (nlT P t h) v := by
  unfold nlT
  split
  · split
    · cases k.nils_inv; exact .nl _ _
    · exact k
  · exact k
theorem nlT_ok {t : TypeId} {h : HV} (k : okV h = true) : okV (nlT P t h) = true := by
  unfold nlT
  split
  · split
    · rfl
    · exact k
  · exact k
theorem nlT_len {t : TypeId} {h : HV} : (cellsH (nlT P t h)).length = (cellsH h).length := by
  unfold nlT
  split
  · split <;> rfl
  · rfl
theorem nlTs_rep : ∀ {ts : List TypeId} {hs : List HV} {vs : List Value}, RepXt G w hs vs → RepXt G w (nlTs P ts hs) vs
  | [], _, _, h => by cases h <;> simp only [nlTs] <;> first | exact .nil | (constructor <;> assumption)
  | t :: ts, [], _, h => by cases h; exact .nil
  | t :: ts, x :: xs, _, h => by cases h with | cons _ v _ vs h hs => exact .cons _ _ _ _ (nlT_rep h) (nlTs_rep hs)
theorem nlTs_ok : ∀ {ts : List TypeId} {hs : List HV}, hs.all okV = true → (nlTs P ts hs).all okV = true
  | [], [], h => h
  | [], x :: xs, h => h
  | t :: ts, [], h => h
  | t :: ts, x :: xs, h => by
    simp only [List.all_cons, Bool.and_eq_true, nlTs] at h ⊢
    exact ⟨nlT_ok h.1, nlTs_ok h.2⟩
theorem evs_repX (hE : RepE2 G w e a) : ∀ l : List Operand, RepXt G w (l.map (ev e)) (l.map a.eval)
  | [] => .nil
  | x :: l => .cons _ _ _ _ (hE.ev x) (evs_repX hE l)

/-! ### stores -/
theorem opx_store_var {t : TypeId} {x y : Operand} {r' off n : Nat} {hy : HV} {cs : List HV} {rd : List Nat} (ho : o.op = .store t x y) (hI : St P G st w) (hvx : RepX G w (.var r' off) (a.eval x)) (hvy : RepX G w hy (a.eval y)) (hs : st[r']? = some (.cel cs)) (hsz : szT P t = some n)
    (hok : okV hy = true) (hn : (cellsH hy).length = n) (hle : off + n ≤ cs.length) (hk : K .undef [(r', .cel (splice cs off (cellsH (nlT P t hy))))] rd = some r) : o.wp P a w (OpX P G st w K r o a) Q := by
  obtain ⟨b, hR, he⟩ := hvx.var_inv
  obtain ⟨b', t', cells, hR', hh, hcs, hm⟩ := hI.obj _ _ hs
  obtain rfl := hI.rfun _ _ _ hR hR'
  have hcc := (nlT_rep (P := P) (t := t) hvy).cells (nlT_ok hok)
  have hlen := hcs.length
  have hcl : (a.eval y).cells.size = n := by have := hcc.length; rw [nlT_len] at this; simpa [hn] using this
  simp only [Array.length_toList] at hlen
  have hrun := run_storeVar (P := P) hsz hh (v := a.eval y) hcl (by omega) hcc.one (off := off)
  obtain ⟨new, hnew⟩ : ∃ new, new = (cells.toList.take off ++ (a.eval y).cells.toList ++ cells.toList.drop (off + n)).toArray := ⟨_, rfl⟩
  rw [← hnew] at hrun
  have key := hI.write (o' := .cel (splice cs off (cellsH (nlT P t hy)))) (w' := w.setRow b new) hs rfl hR hm rfl rfl rfl (by simp) (fun k _ hk => setRow_other w b k new hk)
    (fun m => ⟨b, t', new, hR, setRow_heap w b cells new t' _ hh, by
      have := (hcs.splice hcc off).mono m
      have hnl : new.toList = cells.toList.take off ++ (a.eval y).cells.toList ++ cells.toList.drop (off + n) := by rw [hnew]
      rw [hnl]
      simpa [hcl] using this, hm⟩)
  unfold Oper.wp
  rw [show (execOp a.eval o).run P w = .ok .skip (w.setRow b new) from by simp [execOp, ho, Instr.storeAt, Instr.sureAddr, he, hrun]]
  exact ⟨.undef, Go.undef, _, rd, G, hk, rfl, key.1, key.2.1, key.2.2, .undef _⟩

/-- A part of an element is written. -/
theorem Els.upd {w' : World} {b sz m i off : Nat} {f : Nat → List HV} {cells : Array Value} {c : List HV} {vs : List Value} (h : Els G w b true sz m f cells) (mo : Mono G w G w') (hle : m * sz ≤ cells.size) (hi : i < m) (hc : RepCs G.S w c vs) (ho : off + vs.length ≤ sz) :
    Els G w' b true sz m (updF f i off c) (cells.toList.take (i * sz + off) ++ vs ++ cells.toList.drop (i * sz + off + vs.length)).toArray := by
  have hmul : (i + 1) * sz ≤ m * sz := Nat.mul_le_mul_right _ hi
  rw [Nat.add_mul, Nat.one_mul] at hmul
  refine ⟨fun j hj => ?_, h.2.1, fun e => by cases e⟩
  by_cases hji : j = i
  · subst hji
    have h1 := ((h.1 j hi).splice hc off).mono mo.gro
    simp only [updF, decide_true, cond_true]
    have e : ((cells.toList.take (j * sz + off) ++ vs ++ cells.toList.drop (j * sz + off + vs.length)).drop (j * sz)).take sz = ((cells.toList.drop (j * sz)).take sz).take off ++ vs ++ ((cells.toList.drop (j * sz)).take sz).drop (off + vs.length) := by
      apply List.ext_getElem?
      intro p
      simp only [List.getElem?_append, List.getElem?_take, List.getElem?_drop, List.length_append, List.length_take, List.length_drop, Array.length_toList]
      repeat' split
      all_goals first | rfl | omega | (congr 1; omega) | skip
    simp only [e]
    exact h1
  · simp only [updF, hji, decide_false, cond_false]
    have h1 := (h.1 j hj).mono mo.gro
    have hjm : (j + 1) * sz ≤ m * sz := Nat.mul_le_mul_right _ hj
    rw [Nat.add_mul, Nat.one_mul] at hjm
    have hord : (j + 1) * sz ≤ i * sz ∨ (i + 1) * sz ≤ j * sz := by
      rcases Nat.lt_or_gt_of_ne hji with h | h
      · exact .inl (Nat.mul_le_mul_right _ h)
      · exact .inr (Nat.mul_le_mul_right _ h)
    rw [Nat.add_mul, Nat.one_mul, Nat.add_mul, Nat.one_mul] at hord
    have e : ((cells.toList.take (i * sz + off) ++ vs ++ cells.toList.drop (i * sz + off + vs.length)).drop (j * sz)).take sz = (cells.toList.drop (j * sz)).take sz := by
      apply List.ext_getElem?
      intro p
      simp only [List.getElem?_append, List.getElem?_take, List.getElem?_drop, List.length_append, List.length_take, Array.length_toList]
      by_cases hp : p < sz
      · simp only [hp, if_true]
        repeat' split
        all_goals first | rfl | omega | (congr 1; omega) | skip
      · simp [hp]
    simp only [e]
    exact h1

/-- A row is written: its elements are others. -/
theorem St.writeRow (hI : St P G st w) {id sz m : Nat} {own : Option Nat} {f f' : Nat → List HV} (hs : st[id]? = some (.row true own sz m f)) {g : Nat} {t : TypeId} {cells : Array Value} (hR : G.R id g) (hh : w.heap[g]? = some (.cells cells t (0, 0))) (new : Array Value) (hsz : new.size = cells.size)
    (hm : 0 < m) (hels : Mono G w G (w.setRow g new) → Els G (w.setRow g new) g true sz m f' new) : St P G (setO st id (.row true own sz m f')) (w.setRow g new) ∧ Mono G w G (w.setRow g new) ∧ ∀ n, Fr n G w G (w.setRow g new) := by
  have hob := hI.obj _ _ hs
  obtain ⟨g', t', cells', hR', hh', hle', hels'⟩ := hob.elem hm
  obtain rfl := hI.rfun _ _ _ hR hR'
  rw [hh] at hh'
  cases hh'
  refine hI.write hs rfl hR (hels'.2.1 rfl) rfl rfl rfl (by simp) (fun k _ hk => setRow_other w g k new hk) (fun mo => ⟨hob.1, ?_⟩)
  cases own with
  | none => exact .inr ⟨g, t, new, hR, setRow_heap w g cells new t _ hh, by omega, hels mo⟩
  | some e =>
    obtain ⟨_, hi, v, hT, hv⟩ := hob
    refine ⟨hi, v, hT, ?_⟩
    rcases hv with ⟨hv, _⟩ | ⟨g2, cap, cells2, h1, h2, h3, h4, h5, h6, h7⟩
    · omega
    · obtain rfl := hI.rfun _ _ _ hR h2
      rw [hh] at h3
      cases h3
      exact .inr ⟨g, cap, new, h1, hR, setRow_heap w g cells new _ _ hh, h4, h5, by omega, hels mo⟩

theorem opx_store_elt {t : TypeId} {x y : Operand} {r' sz0 i off n : Nat} {hy : HV} {K' : HV → Wr → Option β} (ho : o.op = .store t x y) (hI : St P G st w) (hvx : RepX G w (.elt r' sz0 i off) (a.eval x)) (hvy : RepX G w hy (a.eval y)) (hsz : szT P t = some n)
    (hk : (closeK st 4 (nlT P t hy) fun v W => match (appl st W)[r']? with
      | some (.row true own sz m f) => brs (decide ((cellsH v).length = n ∧ off + n ≤ sz)) (K .undef (W ++ [(r', .row true own sz m (updF f i off (cellsH v)))]) (r' :: W.map (·.1))) none
      | _ => none) = some r) : o.wp P a w (OpX P G st w K r o a) Q := by
  obtain ⟨c, W, G1, k1, k2, _, k4, k5, k6⟩ := closeK_sound 4 hI (Sim.refl st) (nlT_rep (P := P) (t := t) hvy) hk
  split at k1
  · rename_i own sz m f hs
    obtain ⟨hc, k1⟩ := br_none k1
    simp only [decide_eq_true_eq] at hc
    obtain ⟨b, n', hR, hL, hi, he⟩ := (hvx.mono k4).elt_inv
    have hob := k2.obj _ _ hs
    obtain ⟨rfl, rfl⟩ := k2.lfun _ _ _ _ _ hL hob.1
    obtain ⟨b', t', cells, hR', hh, hle, hels⟩ := hob.elem hi
    obtain rfl := k2.rfun _ _ _ hR hR'
    have hcc := k6.cells
    have hcl : (a.eval y).cells.size = n := by have := hcc.length; simpa [hc.1] using this
    have hmul : (i + 1) * sz0 ≤ n' * sz0 := Nat.mul_le_mul_right _ hi
    rw [Nat.add_mul, Nat.one_mul] at hmul
    have hrun := run_storeVar (P := P) hsz hh (v := a.eval y) hcl (off := i * sz0 + off) (by omega) hcc.one
    obtain ⟨new, hnew⟩ : ∃ new, new = (cells.toList.take (i * sz0 + off) ++ (a.eval y).cells.toList ++ cells.toList.drop (i * sz0 + off + n)).toArray := ⟨_, rfl⟩
    rw [← hnew] at hrun
    have hvl : (a.eval y).cells.toList.length = n := by simpa using hcl
    have key := k2.writeRow (f' := updF f i off (cellsH c)) hs hR hh new (by rw [hnew]; simp; simp at hvl; omega) (by omega) (fun mo => by
      have := hels.upd mo hle hi hcc (off := off) (by omega)
      rw [hvl, ← hnew] at this
      exact this)
    unfold Oper.wp
    rw [show (execOp a.eval o).run P w = .ok .skip (w.setRow b new) from by simp [execOp, ho, Instr.storeAt, Instr.sureAddr, he, hrun]]
    exact ⟨.undef, Go.undef, _, _, G1, k1, rfl, by rw [appl_append]; exact key.1, k4.trans key.2.1, fun n => (k5 n).trans (key.2.2 n), .undef _⟩
  · cases k1

/-! ### new things -/
theorem St.alloc (hI : St P G st w) {id : Nat} (hf : Fresh st id) {ob : Obj} {o' : Ob} {v : Option Value} {l : Option (Nat × Nat)} (ho : Mono G w (pushX G id (some w.heap.size) v l) (w.alloc ob) → RepO P (pushX G id (some w.heap.size) v l) (w.alloc ob) id o') (hl : liveO (some o') = true) :
    St P (pushX G id (some w.heap.size) v l) (setO st id o') (w.alloc ob) ∧ Mono G w (pushX G id (some w.heap.size) v l) (w.alloc ob) ∧ ∀ n, Fr n G w (pushX G id (some w.heap.size) v l) (w.alloc ob) := by
  have hb : Below w.heap.size w (w.alloc ob) := (Below.refl _ _).alloc (Nat.le_refl _) _
  obtain ⟨k1, k2, k3⟩ := hI.grow hb (S' := G.S) (fun _ _ h => h) (fun _ _ h => .inl h) (fun b o h => Nat.lt_of_lt_of_le (hI.slt b o h) hb.size)
  have m := k2.trans (Mono.push G (w.alloc ob) id (some w.heap.size) v l)
  exact ⟨k1.fill hf (fun g hg => by injection hg with hg; subst hg; exact ⟨by simp, fun r _ hr => Nat.lt_irrefl _ (hI.rold _ _ hr)⟩) (ho m) hl, m, fun n => (k3 n).push (fun g hg => by injection hg with hg; subst hg; exact .inr (Nat.le_refl _))⟩

theorem likeN_rep {x b : HV} {v : Value} {S : Nat → Nat → Prop} (hS : G.S = S) (h : likeN x b = true) (k : RepC S w b v) : RepX G w x v := by
  subst hS
  unfold likeN at h
  split at h
  · cases k; exact .nl _ _
  · exact .cl _ _ k
  · exact .cl _ _ k
  · exact .cl _ _ k
  · simp only [Bool.and_eq_true, decide_eq_true_eq] at h; obtain ⟨rfl, rfl⟩ := h; exact .cl _ _ k
  · simp only [beq_iff_eq] at h; subst h; exact .cl _ _ k
  · simp only [decide_eq_true_eq] at h; subst h; exact .cl _ _ k
  · cases h
theorem likeNs_rep : ∀ {as bs : List HV} {vs : List Value}, likeNs as bs = true → RepCs G.S w bs vs → RepXs G w as vs
  | [], [], _, _, h => by cases h; exact .nil
  | a :: as, b :: bs, _, hl, h => by
    simp only [likeNs, Bool.and_eq_true] at hl
    cases h with | cons _ v _ vs h h1 hs => exact .cons _ _ _ _ (likeN_rep rfl hl.1 h) h1 (likeNs_rep hl.2 hs)
  | [], _ :: _, _, hl, _ => by cases hl
  | _ :: _, [], _, hl, _ => by cases hl
theorem zeroN_rep {t : TypeId} {z : List HV} (h : zeroN P t = some z) : ∃ i v, P.info? t = some i ∧ i.zero = some v ∧ RepXs G w z v.cells.toList := by
  unfold zeroN at h
  split at h
  · rename_i i hi
    split at h
    · rename_i v hv
      split at h
      · rename_i z0 hz0
        split at h
        · rename_i z' hz'
          split at h
          · rename_i hl
            injection h with h; subst h
            exact ⟨i, v, hi, hv, likeNs_rep hl (zeroC_rep hz0).1⟩
          · cases h
        · cases h
      · cases h
    · cases h
  · cases h

theorem opx_alloc {t : TypeId} {z : List HV} {id : Nat} {rd : List Nat} (ho : o.op = .alloc t) (hz : zeroN P t = some z) (hI : St P G st w) (hf : Fresh st id) (hk : K (.var id 0) [(id, .cel z)] rd = some r) : o.wp P a w (OpX P G st w K r o a) Q := by
  obtain ⟨i, v, hi, hv, hrep⟩ := zeroN_rep (G := G) (w := w) hz
  have key := hI.alloc (ob := .cells v.cells t) (o' := .cel z) (v := none) (l := none) hf (fun m => ⟨w.heap.size, t, v.cells, .inr ⟨rfl, rfl⟩, heap_alloc_new w _, hrep.mono m, fun o hs => Nat.lt_irrefl _ (hI.slt _ _ hs)⟩) rfl
  refine wp_val (w' := w.alloc (.cells v.cells t)) (v := .pointer (some ⟨w.heap.size, 0, none⟩)) (by simp [execOp, ho, Instr.alloc, zeroValue, typeInfo, hi, hv, newVar, newRow]) ?_
  exact ⟨_, _, _, rd, _, hk, rfl, key.1, key.2.1, key.2.2, .var _ _ _ (.inr ⟨rfl, rfl⟩)⟩
theorem opx_box {t : TypeId} {x : Operand} {h : HV} {id : Nat} {rd : List Nat} (ho : o.op = .box t x) (hI : St P G st w) (hf : Fresh st id) (hv : RepX G w h (a.eval x)) (hok : okV h = true) (hk : K (.var id 0) [(id, .cel (cellsH h))] rd = some r) : o.wp P a w (OpX P G st w K r o a) Q := by
  have key := hI.alloc (ob := .cells (a.eval x).cells t) (o' := .cel (cellsH h)) (v := none) (l := none) hf (fun m => ⟨w.heap.size, t, (a.eval x).cells, .inr ⟨rfl, rfl⟩, heap_alloc_new w _, (hv.cells hok).mono m, fun o hs => Nat.lt_irrefl _ (hI.slt _ _ hs)⟩) rfl
  refine wp_val (w' := w.alloc (.cells (a.eval x).cells t)) (v := .pointer (some ⟨w.heap.size, 0, none⟩)) (by simp [execOp, ho, Instr.box, newVar, newRow]) ?_
  exact ⟨_, _, _, rd, _, hk, rfl, key.1, key.2.1, key.2.2, .var _ _ _ (.inr ⟨rfl, rfl⟩)⟩

theorem opx_makeSlice {t : TypeId} {l c : Operand} {el sz by_ id : Nat} {z : List HV} {x y : Int} (ho : o.op = .makeSlice t l c) (he : elemT P t = some (el, sz, z, by_)) (hI : St P G st w) (hf : Fresh st id) (hvl : RepX G w (.int .i64 x) (a.eval l)) (hvc : RepX G w (.int .i64 y) (a.eval c))
    (hk : br (decide (x = y)) (br (decide (0 ≤ x ∧ x * by_ ≤ 140737488355328)) (K (.arr id sz 0 x.toNat) [(id, .row true none sz x.toNat (fun _ => z))] []) none) none = some r) : o.wp P a w (OpX P G st w K r o a) Q := by
  obtain ⟨hxy, hk1⟩ := br_none hk
  obtain ⟨hb, hk2⟩ := br_none hk1
  simp only [decide_eq_true_eq] at hxy hb
  subst hxy
  obtain ⟨i, vz, hu, hi, hz, hzc, rfl, rfl, hzl, hs0, hb0⟩ := elemT_inv he
  have hl := hvl.int_inv
  have hc := hvc.int_inv
  have hx63 : x ≤ 9223372036854775807 := by
    have : x * 1 ≤ x * i.bytes := Int.mul_le_mul_of_nonneg_left (by omega) hb.1
    omega
  have hrun := run_make (P := P) w t el i vz hu hi hz .i64 .i64 x x hb.1 (Int.le_refl _) (by rw [Int.mul_comm]; omega) hx63
  have hzs := elemT_zero hzc hzl
  have hcell : ∀ p, p < x.toNat → ((madeCells vz.cells (x.toNat * i.size)).toList.drop (p * i.size)).take i.size = vz.cells.toList := by
    intro p hp
    have hpl : (p + 1) * i.size ≤ x.toNat * i.size := Nat.mul_le_mul_right _ hp
    rw [Nat.succ_mul] at hpl
    apply List.ext_getElem?
    intro j
    rw [List.getElem?_take]
    split
    · rename_i hj
      rw [List.getElem?_drop]
      simp only [madeCells, Array.toList_map, List.getElem?_map, Array.toList_range]
      rw [List.getElem?_range (by omega)]
      simp only [Option.map_some]
      rw [hzs, Nat.add_comm, Nat.add_mul_mod_self_right, Nat.mod_eq_of_lt hj]
      rw [Array.getElem?_toList, Array.getElem?_eq_getElem (by omega)]
      simp [getElem!_pos, hzs, hj]
    · rename_i hj
      rw [List.getElem?_eq_none (by simp; omega)]
  have key := hI.alloc (ob := .cells (madeCells vz.cells (x.toNat * i.size)) el) (o' := .row true none i.size x.toNat (fun _ => z)) (v := none) (l := some (i.size, x.toNat)) hf (fun m => ⟨.inr ⟨rfl, rfl⟩, .inr ⟨w.heap.size, el, _, .inr ⟨rfl, rfl⟩, heap_alloc_new w _, by rw [size_madeCells]; exact Nat.le_refl _,
    fun p hp => by rw [hcell p hp]; exact zeroV_rep hzc, fun _ o hs => Nat.lt_irrefl _ (hI.slt _ _ hs), fun e => by cases e⟩⟩) rfl
  refine wp_val (v := .slice (some ⟨w.heap.size, 0, none⟩) x.toNat x.toNat) (by simp only [execOp, ho, hl, hc, Sem.run_bind, hrun]; rfl) ?_
  exact ⟨_, _, _, _, _, hk2, rfl, key.1, key.2.1, key.2.2, .arr _ _ _ _ _ _ x.toNat (.inr ⟨rfl, rfl⟩) (by omega) (Nat.le_refl _) (fun _ => ⟨w.heap.size, .inr ⟨rfl, rfl⟩, by simp⟩)⟩

/-- A new list of no elements: nil, or of no room. -/
theorem St.emptyRow (hI : St P G st w) {id : Nat} (hf : Fresh st id) {el sz : Nat} (hi : (P.info? el).map (·.size) = some sz) (A : Option Addr) (z : List HV) :
    St P (pushX G id none (some (.slice A 0 0)) (some (sz, 0))) (setO st id (.row true (some el) sz 0 (fun _ => z))) w ∧ Mono G w (pushX G id none (some (.slice A 0 0)) (some (sz, 0))) w ∧ ∀ n, Fr n G w (pushX G id none (some (.slice A 0 0)) (some (sz, 0))) w :=
  ⟨hI.fill hf (fun g hg => by cases hg) ⟨.inr ⟨rfl, rfl⟩, hi, _, .inr ⟨rfl, rfl⟩, .inl ⟨rfl, A, rfl⟩⟩ rfl, Mono.push _ _ _ _ _ _, fun n => (Fr.refl n G w).push (fun g hg => by cases hg)⟩
theorem elemT_info {t el sz by_ : Nat} {z : List HV} (h : elemT P t = some (el, sz, z, by_)) : P.underlying t = some (.slice el) ∧ (P.info? el).map (·.size) = some sz := by
  obtain ⟨i, vz, hu, hi, hz, hzc, h5, h6, hzl, hs0, hb0⟩ := elemT_inv h
  exact ⟨hu, by rw [hi]; simp [h5]⟩
theorem opx_nil {x : Operand} {id el sz by_ : Nat} {z : List HV} {rd : List Nat} (ho : o.op = .assign x) (hI : St P G st w) (hf : Fresh st id) (hv : a.eval x = .slice none 0 0) (he : elemT P o.type = some (el, sz, z, by_)) (hk : K (.ow id) [(id, .row true (some el) sz 0 (fun _ => z))] rd = some r) : o.wp P a w (OpX P G st w K r o a) Q := by
  have key := hI.emptyRow hf (elemT_info he).2 none z
  refine wp_val (w' := w) (v := .slice none 0 0) (by simp [execOp, ho, hv]) ?_
  exact ⟨_, _, _, rd, _, hk, rfl, key.1, key.2.1, key.2.2, .ow _ _ _ _ (.inr ⟨rfl, rfl⟩)⟩

/-! ### literals -/
theorem fillX_rep {place : Nat → Option (Nat × Nat)} : ∀ {ps : List (Nat × Value)} {cs : List HV} {cells : Array Value} {is : List Nat} {hs : List HV} {cs' : List HV}, RepXs G w cs cells.toList → RepXt G w hs (ps.map (·.2)) → hs.all okV = true → is = ps.map (·.1) →
    fillH place cs (is.zip hs) = some cs' → ∃ cells', Instr.fill place cells ps = some cells' ∧ RepXs G w cs' cells'.toList := by
  intro ps
  induction ps with
  | nil =>
    intro cs cells is hs cs' hc _ _ hi hf
    subst hi
    simp [fillH] at hf
    subst hf
    exact ⟨cells, rfl, hc⟩
  | cons p ps ih =>
    intro cs cells is hs cs' hc hh hok hi hf
    subst hi
    obtain ⟨i, v⟩ := p
    cases hh with
    | cons h _ hs _ hv hhs =>
      simp only [List.map_cons, List.zip_cons_cons] at hf
      simp only [List.all_cons, Bool.and_eq_true] at hok
      unfold fillH at hf
      split at hf
      · cases hf
      · rename_i off size hpl
        split at hf
        · rename_i hcond
          obtain ⟨hsz, hle⟩ := hcond
          have hcl := hv.cells hok.1
          have hl := hcl.length
          have hlc := hc.length
          simp only [Array.length_toList] at hl hlc
          have hfold := zipIdx_fold v.cells off cells (by omega)
          have hrep := hc.splice hcl off
          rw [Array.length_toList, ← hfold] at hrep
          obtain ⟨cells', h1, h2⟩ := ih hrep hhs hok.2 rfl hf
          refine ⟨cells', ?_, h2⟩
          unfold Instr.fill
          simp only at hpl ⊢
          rw [hpl]
          simp only
          rw [if_neg (by simp; omega)]
          exact h1
        · cases hf
theorem opx_build {t : TypeId} {parts : Array (Nat × Operand)} {fs : Array Field} {z : List HV} {hs : List HV} {cs' : List HV} {rd : List Nat} (ho : o.op = .build t parts) (hz : zeroN P t = some z) (hu : P.underlying t = some (.struct fs)) (hI : St P G st w)
    (hall : fs.toList.all (fun f => (szT P f.type).isSome) = true) (hv : RepXt G w hs (parts.toList.map fun p => a.eval p.2)) (hok : hs.all okV = true)
    (hf : fillH (placeT P fs) z ((parts.toList.map (·.1)).zip (nlTs P (parts.toList.map fun p => fieldT fs p.1) hs)) = some cs') (hk : K (.agg cs') [] rd = some r) : o.wp P a w (OpX P G st w K r o a) Q := by
  obtain ⟨i, vz, hi, hvz, hrep⟩ := zeroN_rep (G := G) (w := w) hz
  obtain ⟨cells', h1, h2⟩ := fillX_rep (ps := parts.toList.map fun p => (p.1, a.eval p.2)) hrep (by simpa [Function.comp_def] using nlTs_rep (P := P) (ts := parts.toList.map fun p => fieldT fs p.1) hv) (nlTs_ok hok) (by simp [Function.comp_def]) hf
  have hpl : (fun i => ((fs.toList.map fun f => (f.offset, (szT P f.type).getD 0)).toArray)[i]?) = placeT P fs := by
    funext i
    unfold placeT
    rw [List.getElem?_toArray, List.getElem?_map, Array.getElem?_toList]
    cases hfi : fs[i]? with
    | none => rfl
    | some f =>
      have hmem : f ∈ fs.toList := Array.mem_toList_iff.2 (Array.mem_of_getElem? hfi)
      have := List.all_eq_true.1 hall f hmem
      cases hsz : szT P f.type with
      | none => rw [hsz] at this; cases this
      | some n => simp [hsz]
  have hrun : (Instr.build t (parts.map fun p => (p.1, a.eval p.2))).run P w = .ok (.agg cells') w := by
    unfold Instr.build
    have hm : (fs.mapM fun f => (do pure (f.offset, ← sizeOf f.type) : Sem (Nat × Nat))).run P w = .ok (fs.toList.map fun f => (f.offset, (szT P f.type).getD 0)).toArray w := by
      rw [show fs = fs.toList.toArray from by simp, List.mapM_toArray]
      simp only [Sem.run_map]
      rw [run_places _ (by simpa using hall)]
      rfl
    have h1' : Instr.fill (fun x => ((fs.toList.map fun f => (f.offset, (szT P f.type).getD 0)).toArray)[x]?) vz.cells (parts.map fun p => (p.1, a.eval p.2)).toList = some cells' := by
      rw [hpl]; simpa using h1
    simp only [Sem.run_bind, zeroValue, typeInfo, run_program, Result.andThen_ok, hi, Sem.run_pure, hvz, run_underlying hu, hm]
    rw [h1']
    rfl
  have hag := RepX.agg _ _ h2
  simp only [Array.toArray_toList] at hag
  exact opx_pure hI (v := .agg cells') (by
    simp only [execOp, ho, Sem.run_bind]
    rw [show (fun x : Nat × Operand => match x with | (i, x) => (i, a.eval x)) = (fun p => (p.1, a.eval p.2)) from by funext x; cases x; rfl, hrun]
    rfl) hk hag
theorem opx_makeFunc {f : Nat} {first captured : Array Operand} {hs : List HV} {rd : List Nat} (ho : o.op = .makeFunc (.func f) first captured) (hf : first.toList = []) (hI : St P G st w) (hv : RepXt G w hs (captured.toList.map a.eval)) (hok : hs.all okV = true) (hc : hs.all isCell = true) (hk : K (.fn f hs) [] rd = some r) : o.wp P a w (OpX P G st w K r o a) Q := by
  have hf : first = #[] := by apply Array.toList_inj.1; simpa using hf
  have cells : ∀ {hs : List HV} {vs : List Value}, hs.all okV = true → hs.all isCell = true → RepXt G w hs vs → RepXs G w hs vs := by
    intro hs
    induction hs with
    | nil => intro vs _ _ h; cases h; exact .nil
    | cons x xs ih =>
      intro vs h1 h2 h
      simp only [List.all_cons, Bool.and_eq_true] at h1 h2
      cases h with | cons _ v _ vs h hs =>
      refine .cons _ _ _ _ h ?_ (ih h1.2 h2.2 hs)
      cases h with
      | undef => cases h1.1
      | cl _ _ k => exact toC_one k h2.1
      | agg => cases h2.1
      | tup => cases h1.1
      | _ => rfl
  have := RepX.fn (G := G) (w := w) f hs _ (cells hok hc hv)
  have e : (captured.toList.map a.eval).toArray = captured.map a.eval := by apply Array.toList_inj.1; simp
  rw [e] at this
  exact opx_pure hI (v := .func (.func f) #[] (captured.map a.eval)) (by simp [execOp, ho, Instr.makeFunc, hf]) hk this
end
end Go.Eng
end
