/- The library contracts that the rules lean on, at the numbers of this program. -/
import Derived.Shelf.Sort.Plain
import Derived.Ground.Names2Prog
import Derived.Shelf.Slices.CompactI
import Derived.Shelf.Slices.In.SortNone
import Derived.Test.YtokpjbddoppdpaaProg
import Derived.Test.YtokpjbddoppdpaaRulF
import Derived.Test.YtokpjbddoppdpaaEngC
import Derived.Test.YtokpjbddoppdpaaRows
import Derived.ChangeSame
set_option linter.unusedVariables false
set_option linter.unusedSimpArgs false
set_option linter.unusedSectionVars false
section
namespace Go.Proofs
open Go.Shelf
def Try.lays189_ren : Go.Shelf.Ren := ⟨fun | 189 => 72 | 125 => 105 | 257 => 104 | 128 => 127 | 129 => 128 | 294 => 118 | 295 => 119 | 296 => 120 | 297 => 121 | 298 => 122 | 299 => 123 | 216 => 124 | 300 => 125 | 301 => 126 | 328 => 132 | 329 => 133 | 330 => 134 | 331 => 135 | 332 => 136 | 215 => 137 | 343 => 140 | n => n, fun | 28 => 22 | 3 => 3 | 46 => 123 | 0 => 0 | 51 => 145 | 53 => 147 | 4 => 4 | 183 => 138 | 182 => 137 | 131 => 142 | 5 => 5 | 9 => 9 | 218 => 151 | 222 => 155 | 228 => 158 | 229 => 159 | n => n, fun | n => n⟩
theorem Try.lays189 : Go.Proofs.Lays.n189 Try.prog Try.lays189_ren := {
  mixed := by kernel_rfl
  f125 := Try.func105.trans (congrArg some (by kernel_rfl))
  f128 := Try.func127.trans (congrArg some (by kernel_rfl))
  f129 := Try.func128.trans (congrArg some (by kernel_rfl))
  f189 := Try.func72.trans (congrArg some (by kernel_rfl))
  f215 := Try.func137.trans (congrArg some (by kernel_rfl))
  f216 := Try.func124.trans (congrArg some (by kernel_rfl))
  f257 := Try.func104.trans (congrArg some (by kernel_rfl))
  f294 := Try.func118.trans (congrArg some (by kernel_rfl))
  f295 := Try.func119.trans (congrArg some (by kernel_rfl))
  f296 := Try.func120.trans (congrArg some (by kernel_rfl))
  f297 := Try.func121.trans (congrArg some (by kernel_rfl))
  f298 := Try.func122.trans (congrArg some (by kernel_rfl))
  f299 := Try.func123.trans (congrArg some (by kernel_rfl))
  f300 := Try.func125.trans (congrArg some (by kernel_rfl))
  f301 := Try.func126.trans (congrArg some (by kernel_rfl))
  f328 := Try.func132.trans (congrArg some (by kernel_rfl))
  f329 := Try.func133.trans (congrArg some (by kernel_rfl))
  f330 := Try.func134.trans (congrArg some (by kernel_rfl))
  f331 := Try.func135.trans (congrArg some (by kernel_rfl))
  f332 := Try.func136.trans (congrArg some (by kernel_rfl))
  f343 := Try.func140.trans (congrArg some (by kernel_rfl))
  t0 := Try.underlying0
  a0 := Try.isAgg0
  z0 := Try.sizeOf0
  v0 := Try.zeroValue0
  t3 := Try.underlying3
  a3 := Try.isAgg3
  z3 := Try.sizeOf3
  v3 := Try.zeroValue3
  t4 := Try.underlying4
  a4 := Try.isAgg4
  z4 := Try.sizeOf4
  v4 := Try.zeroValue4
  t5 := Try.underlying5
  a5 := Try.isAgg5
  z5 := Try.sizeOf5
  v5 := Try.zeroValue5
  t9 := Try.underlying9
  a9 := Try.isAgg9
  z9 := Try.sizeOf9
  v9 := Try.zeroValue9
  t28 := Try.underlying22
  a28 := Try.isAgg22
  z28 := Try.sizeOf22
  v28 := Try.zeroValue22
  t46 := Try.underlying123
  a46 := Try.isAgg123
  z46 := Try.sizeOf123
  v46 := Try.zeroValue123
  t51 := Try.underlying145
  a51 := Try.isAgg145
  z51 := Try.sizeOf145
  v51 := Try.zeroValue145
  t53 := Try.underlying147
  a53 := Try.isAgg147
  z53 := Try.sizeOf147
  v53 := Try.zeroValue147
  t131 := Try.underlying142
  a131 := Try.isAgg142
  z131 := Try.sizeOf142
  v131 := Try.zeroValue142
  t182 := Try.underlying137
  a182 := Try.isAgg137
  z182 := Try.sizeOf137
  v182 := Try.zeroValue137
  t183 := Try.underlying138
  a183 := Try.isAgg138
  z183 := Try.sizeOf138
  v183 := Try.zeroValue138
  t218 := Try.underlying151
  a218 := Try.isAgg151
  z218 := Try.sizeOf151
  v218 := Try.zeroValue151
  t222 := Try.underlying155
  a222 := Try.isAgg155
  z222 := Try.sizeOf155
  v222 := Try.zeroValue155
  t228 := Try.underlying158
  a228 := Try.isAgg158
  z228 := Try.sizeOf158
  v228 := Try.zeroValue158
  t229 := Try.underlying159
  a229 := Try.isAgg159
  z229 := Try.sizeOf159
  v229 := Try.zeroValue159 }
open Go.Sort Go.RowKit in
theorem Try.slices_Sort_int (blk off cap : Nat) (zs : List Int) (w : World) (hH : Holds (Value.int .i64) w blk off zs.toArray) (hblk : blk < w.heap.size) (hsz : zs.length < 4611686018427387904) :
    Calls Try.prog 72 #[.slice (some ⟨blk, off, none⟩) zs.length cap] w fun e w' =>
      e = .returned (.tuple #[]) ∧ ∃ n os, w' = grow (putRow (Value.int .i64) (Sort.ahead w n) blk off (zs.mergeSort fun x y => decide (x ≤ y)).toArray) os := Any.slices_Sort_int Try.lays189 blk off cap zs w hH hblk hsz
def Try.laysNm220_ren : Go.Shelf.Ren := ⟨fun | 20 => 73 | n => n, fun | 22 => 22 | 3 => 3 | 4 => 4 | 0 => 0 | n => n, fun | n => n⟩
theorem Try.laysNm220 : Go.Proofs.Lays2.n20 Try.prog Try.laysNm220_ren := {
  mixed := by kernel_rfl
  f20 := Try.func73.trans (congrArg some (by kernel_rfl))
  t0 := Try.underlying0
  a0 := Try.isAgg0
  z0 := Try.sizeOf0
  v0 := Try.zeroValue0
  t3 := Try.underlying3
  a3 := Try.isAgg3
  z3 := Try.sizeOf3
  v3 := Try.zeroValue3
  t4 := Try.underlying4
  a4 := Try.isAgg4
  z4 := Try.sizeOf4
  v4 := Try.zeroValue4
  t22 := Try.underlying22
  a22 := Try.isAgg22
  z22 := Try.sizeOf22
  v22 := Try.zeroValue22
  i3 := by kernel_rfl }
open Go.RowKit Go.Lib Go.Sort in
theorem Try.slices_Compact_int_arr (blk off cap : Nat) (d : Array Int) (w : World) (hH : Holds encI w blk off d) (hsz : d.size ≤ 9223372036854775807) (hcap : d.size ≤ cap) :
    Calls Try.prog 73 #[.slice (some ⟨blk, off, none⟩) d.size cap] w fun e w' => e = .returned (.slice (some ⟨blk, off, none⟩) (compactUpTo d d.size).length cap) ∧ ∃ q, w' = putRow encI (Sort.ahead w q) blk off (compactUpTo d d.size ++ List.replicate (d.size - (compactUpTo d d.size).length) 0).toArray := Any.slices_Compact_int_arr Try.laysNm220 blk off cap d w hH hsz hcap
open Go.RowKit Go.Lib Go.Sort in
theorem Try.slices_Compact_int (blk off cap : Nat) (zs : List Int) (w : World) (hH : Holds (Value.int .i64) w blk off zs.toArray) (hsz : zs.length ≤ 9223372036854775807) (hcap : zs.length ≤ cap) :
    Calls Try.prog 73 #[.slice (some ⟨blk, off, none⟩) zs.length cap] w fun e w' => e = .returned (.slice (some ⟨blk, off, none⟩) (Lib.compact zs).length cap) ∧ ∃ q, w' = putRow (Value.int .i64) (Sort.ahead w q) blk off (Lib.compact zs ++ List.replicate (zs.length - (Lib.compact zs).length) 0).toArray := Any.slices_Compact_int Try.laysNm220 blk off cap zs w hH hsz hcap
open Go.RowKit Go.Lib Go.Sort in
theorem Try.slices_Compact_int_empty (a : Option Addr) (cap : Nat) (w : World) :
    Calls Try.prog 73 #[.slice a 0 cap] w fun e w' => e = .returned (.slice a 0 cap) ∧ w' = w := Any.slices_Compact_int_empty Try.laysNm220 a cap w
open Go.RowKit Go.Sort in
theorem Try.slices_Sort_int_none (p : Option Addr) (cap : Nat) (w : World) :
    Calls Try.prog 72 #[.slice p 0 cap] w fun e w' => e = .returned (.tuple #[]) ∧ w' = w := Any.slices_Sort_int_none Try.lays189 p cap w
end Go.Proofs
end

section
namespace Go.Rul
open Go.Eng Go.RowKit Go.ChangeShapes Go.WideShapes Go.ChangeAt Go.Proofs
set_option maxRecDepth 100000
set_option linter.unusedVariables false

theorem sortC : SortC PP 72 := ⟨fun blk off cap zs w h1 h2 h3 => Try.slices_Sort_int blk off cap zs w h1 h2 h3, fun p cap w => Try.slices_Sort_int_none p cap w⟩
theorem compC : CompC PP 73 := ⟨fun blk off cap zs w h1 h2 h3 => Try.slices_Compact_int blk off cap zs w h1 h2 h3, fun p cap w => Try.slices_Compact_int_empty p cap w⟩
theorem mixed : PP.follows .mixedOrders = true := by kernel_rfl
theorem okXE : ExtOk PP XE := extOf_ok (E := EE) (ext2 := sortExt 72 73 3) fun call hc => ⟨hc, sortExt_ok sortC compC, fun g el sz by_ h => (by unfold EE mode2 at h; simp only at h; split at h <;> cases h), fun g h => (by unfold EE mode2 at h; simp only at h; split at h <;> cases h), by kernel_rfl, mixed⟩
theorem lexFF : FF.all (lexF PP) = true := by kernel_rfl
end Go.Rul
end

section
namespace Go.Rul
open Go.Eng Go.Proofs Go.RowKit
set_option maxRecDepth 100000
set_option linter.unusedVariables false

theorem len_of {α : Type} {good : α → Prop} {b : Nat} {l : List α} (hb : 0 < b) (h : gList good b l) : Len l := by
  have h2 := h.2
  have : l.length * 1 ≤ l.length * b := Nat.mul_le_mul_left _ hb
  unfold Len
  omega
abbrev Any_ {α : Type} (_ : α) : Prop := True
theorem dInt : Dec PP 3 (eInt .i64) (gInt .i64) := Dec.int Try.underlying3
theorem dBool : Dec PP 4 eBool gBool := Dec.bool Try.underlying4
theorem dStr : Dec PP 9 eStr gStr := Dec.str Try.underlying9
theorem dInts : Dec PP 22 (eList 1 I64) (gList (gInt .i64) 8) := Dec.list Try.underlying22 (by kernel_rfl) (by kernel_rfl) dInt
theorem dStrs : Dec PP 23 (eList 1 eStr) (gList gStr 16) := Dec.list Try.underlying23 (by kernel_rfl) (by kernel_rfl) dStr
theorem dLit : Dec PP 44 eLit Any_ := Dec.struct Try.underlying44 (by kernel_rfl) (DecFs.cons (by kernel_rfl) dInt (DecFs.cons (by kernel_rfl) dBool DecFs.nil)) (fun x => (⟨x.1, x.2.1⟩ : Lit)) (fun _ _ => trivial) (fun x => rfl)
theorem dLits : Dec PP 31 (eList 2 eLit) (gList Any_ 16) := Dec.list Try.underlying31 (by kernel_rfl) (by kernel_rfl) dLit
theorem dSet : Dec PP 46 eSet Any_ := Dec.struct Try.underlying46 (by kernel_rfl) (DecFs.cons (by kernel_rfl) dInt (DecFs.cons (by kernel_rfl) dBool DecFs.nil)) (fun x => (⟨x.1, x.2.1⟩ : SetF)) (fun _ _ => trivial) (fun x => rfl)
theorem dSets : Dec PP 33 (eList 2 eSet) (gList Any_ 16) := Dec.list Try.underlying33 (by kernel_rfl) (by kernel_rfl) dSet
theorem dCond : Dec PP 57 eCond Any_ := Dec.struct Try.underlying57 (by kernel_rfl) (DecFs.cons (by kernel_rfl) dStr (DecFs.cons (by kernel_rfl) dStr (DecFs.cons (by kernel_rfl) dInt DecFs.nil))) (fun x => (⟨x.1, x.2.1, x.2.2.1⟩ : Cond)) (fun _ _ => trivial) (fun x => rfl)
theorem dConds : Dec PP 32 (eList 3 eCond) (gList Any_ 40) := Dec.list Try.underlying32 (by kernel_rfl) (by kernel_rfl) dCond
theorem dRule : Dec PP 35 eRule OkRule := Dec.struct Try.underlying35 (by kernel_rfl) (DecFs.cons (by kernel_rfl) dInt (DecFs.cons (by kernel_rfl) dLits (DecFs.cons (by kernel_rfl) dConds (DecFs.cons (by kernel_rfl) dSets DecFs.nil)))) (fun x => (⟨x.1, x.2.1, x.2.2.1, x.2.2.2.1⟩ : Rule)) (fun x h => ⟨len_of (by decide) h.2.1, len_of (by decide) h.2.2.1, len_of (by decide) h.2.2.2.1⟩) (fun x => rfl)
theorem dRules : Dec PP 24 (eList 4 eRule) (gList OkRule 80) := Dec.list Try.underlying24 (by kernel_rfl) (by kernel_rfl) dRule
theorem dCounter : Dec PP 42 eCounter Any_ := Dec.struct Try.underlying42 (by kernel_rfl) (DecFs.cons (by kernel_rfl) dInt (DecFs.cons (by kernel_rfl) dInt (DecFs.cons (by kernel_rfl) dInt DecFs.nil))) (fun x => (⟨x.1, x.2.1, x.2.2.1⟩ : Counter)) (fun _ _ => trivial) (fun x => rfl)
theorem dCounters : Dec PP 25 (eList 3 eCounter) (gList Any_ 24) := Dec.list Try.underlying25 (by kernel_rfl) (by kernel_rfl) dCounter
theorem dUser : Dec PP 61 eUser (fun u => Len u.while_) := Dec.struct Try.underlying61 (by kernel_rfl) (DecFs.cons (by kernel_rfl) dStr (DecFs.cons (by kernel_rfl) dInt (DecFs.cons (by kernel_rfl) dLits (DecFs.cons (by kernel_rfl) dInt DecFs.nil)))) (fun x => (⟨x.1, x.2.1, x.2.2.1, x.2.2.2.1⟩ : User)) (fun x h => len_of (by decide) h.2.2.1) (fun x => rfl)
theorem dUsers : Dec PP 26 (eList 4 eUser) (gList (fun u : User => Len u.while_) 56) := Dec.list Try.underlying26 (by kernel_rfl) (by kernel_rfl) dUser
theorem dOn : Dec PP 150 eOn Any_ := Dec.struct Try.underlying150 (by kernel_rfl) (DecFs.cons (by kernel_rfl) dStr (DecFs.cons (by kernel_rfl) dInt DecFs.nil)) (fun x => (⟨x.1, x.2.1⟩ : OnE)) (fun _ _ => trivial) (fun x => rfl)
theorem dOns : Dec PP 125 (eList 2 eOn) (gList Any_ 24) := Dec.list Try.underlying125 (by kernel_rfl) (by kernel_rfl) dOn
theorem dSentry : Dec PP 127 eSentry Any_ := Dec.struct Try.underlying127 (by kernel_rfl) (DecFs.cons (by kernel_rfl) dOns (DecFs.cons (by kernel_rfl) dConds DecFs.nil)) (fun x => (⟨x.1, x.2.1⟩ : Sentry)) (fun _ _ => trivial) (fun x => rfl)
theorem dSentries : Dec PP 81 (eList 2 eSentry) (gList Any_ 48) := Dec.list Try.underlying81 (by kernel_rfl) (by kernel_rfl) dSentry
theorem dItem : Dec PP 83 eItem Any_ := Dec.struct Try.underlying83 (by kernel_rfl) (DecFs.cons (by kernel_rfl) dStr (DecFs.cons (by kernel_rfl) dInt (DecFs.cons (by kernel_rfl) dStr (DecFs.cons (by kernel_rfl) dBool (DecFs.cons (by kernel_rfl) dInt (DecFs.cons (by kernel_rfl) dSentries (DecFs.cons (by kernel_rfl) dSentries DecFs.nil))))))) (fun x => (⟨x.1, x.2.1, x.2.2.1, x.2.2.2.1, x.2.2.2.2.1, x.2.2.2.2.2.1, x.2.2.2.2.2.2.1⟩ : Item)) (fun _ _ => trivial) (fun x => rfl)
theorem dItems : Dec PP 27 (eList 7 eItem) (gList Any_ 104) := Dec.list Try.underlying27 (by kernel_rfl) (by kernel_rfl) dItem
theorem dPr : Dec PP 29 ePr OkPr := Dec.struct Try.underlying29 (by kernel_rfl) (DecFs.cons (by kernel_rfl) dInt (DecFs.cons (by kernel_rfl) dInt (DecFs.cons (by kernel_rfl) dInts (DecFs.cons (by kernel_rfl) dInts (DecFs.cons (by kernel_rfl) dInt (DecFs.cons (by kernel_rfl) dStrs (DecFs.cons (by kernel_rfl) dRules (DecFs.cons (by kernel_rfl) dCounters (DecFs.cons (by kernel_rfl) dUsers (DecFs.cons (by kernel_rfl) dItems DecFs.nil))))))))))
  (fun x => (⟨x.1, x.2.1, x.2.2.1, x.2.2.2.1, x.2.2.2.2.1, x.2.2.2.2.2.1, x.2.2.2.2.2.2.1, x.2.2.2.2.2.2.2.1, x.2.2.2.2.2.2.2.2.1, x.2.2.2.2.2.2.2.2.2.1⟩ : Pr))
  (fun x h => ⟨len_of (by decide) h.2.2.1, len_of (by decide) h.2.2.2.1, len_of (by decide) h.2.2.2.2.2.1, len_of (by decide) h.2.2.2.2.2.2.1, len_of (by decide) h.2.2.2.2.2.2.2.1, len_of (by decide) h.2.2.2.2.2.2.2.2.1, len_of (by decide) h.2.2.2.2.2.2.2.2.2.1, fun r hr => h.2.2.2.2.2.2.1.1 r hr, fun u hu => h.2.2.2.2.2.2.2.2.1.1 u hu⟩) (fun x => rfl)
theorem aPr : Arg PP 29 (fun p => .agg (ePr p)) OkPr := Arg.struct dPr Try.underlying29
theorem walkLess {w : World} {v : Value} {p : Pr} (hp : OkPr p) (h : RepC (AllS w) w (.agg (ePr p)) v) : Calls PP 3 #[v] w fun e w' => e = .returned (.bool true) ∧ Below w.heap.size w w' :=
  calls_bool okXE mixed lexFF (g3 (k := BB + 30) (by omega) p hp) (.cons _ _ _ _ h .nil)
end Go.Rul
end
