/- What impl.goodBits does: at most 300 bytes, and nothing left where all '0' and '1' are cut off both ends (strings.Trim by the shelf's contract, laid at this program). No condition. -/
import Derived.Shelf.Strings.SlTrimAscii
import Derived.Test.YtkigjidjbjbjlaaDoorProg
import Derived.WalkKit
namespace Go.Proofs.YtkigjidjbjbjlaaDoor
open Go.Shelf Go.RowKit Go.Lib
def Tryd.lays160_ren : Go.Shelf.Ren := ⟨fun | 160 => 17 | 232 => 20 | 231 => 19 | 227 => 21 | 234 => 23 | 233 => 22 | 236 => 25 | 235 => 24 | 228 => 26 | 271 => 29 | 151 => 28 | 197 => 27 | 120 => 32 | 152 => 31 | 260 => 30 | 137 => 33 | 119 => 34 | 224 => 35 | 225 => 36 | 217 => 37 | 266 => 38 | n => n, fun | 9 => 9 | 4 => 4 | 3 => 3 | 5 => 5 | 117 => 43 | 116 => 42 | 0 => 0 | 124 => 46 | 21 => 21 | 105 => 48 | 46 => 38 | 119 => 52 | 139 => 55 | 138 => 54 | n => n, fun | 3 => 0 | 4 => 1 | n => n⟩
theorem Tryd.lays160 : Go.Proofs.Lays.n160 Tryd.prog Tryd.lays160_ren := {
  mixed := by kernel_rfl
  f119 := Tryd.func34.trans (congrArg some (by kernel_rfl))
  f120 := Tryd.func32.trans (congrArg some (by kernel_rfl))
  f137 := Tryd.func33.trans (congrArg some (by kernel_rfl))
  f151 := Tryd.func28.trans (congrArg some (by kernel_rfl))
  f152 := Tryd.func31.trans (congrArg some (by kernel_rfl))
  f160 := Tryd.func17.trans (congrArg some (by kernel_rfl))
  f197 := Tryd.func27.trans (congrArg some (by kernel_rfl))
  f217 := Tryd.func37.trans (congrArg some (by kernel_rfl))
  f224 := Tryd.func35.trans (congrArg some (by kernel_rfl))
  f225 := Tryd.func36.trans (congrArg some (by kernel_rfl))
  f227 := Tryd.func21.trans (congrArg some (by kernel_rfl))
  f228 := Tryd.func26.trans (congrArg some (by kernel_rfl))
  f231 := Tryd.func19.trans (congrArg some (by kernel_rfl))
  f232 := Tryd.func20.trans (congrArg some (by kernel_rfl))
  f233 := Tryd.func22.trans (congrArg some (by kernel_rfl))
  f234 := Tryd.func23.trans (congrArg some (by kernel_rfl))
  f235 := Tryd.func24.trans (congrArg some (by kernel_rfl))
  f236 := Tryd.func25.trans (congrArg some (by kernel_rfl))
  f260 := Tryd.func30.trans (congrArg some (by kernel_rfl))
  f266 := Tryd.func38.trans (congrArg some (by kernel_rfl))
  f271 := Tryd.func29.trans (congrArg some (by kernel_rfl))
  t0 := Tryd.underlying0
  a0 := Tryd.isAgg0
  z0 := Tryd.sizeOf0
  v0 := Tryd.zeroValue0
  t3 := Tryd.underlying3
  a3 := Tryd.isAgg3
  z3 := Tryd.sizeOf3
  v3 := Tryd.zeroValue3
  t4 := Tryd.underlying4
  a4 := Tryd.isAgg4
  z4 := Tryd.sizeOf4
  v4 := Tryd.zeroValue4
  t5 := Tryd.underlying5
  a5 := Tryd.isAgg5
  z5 := Tryd.sizeOf5
  v5 := Tryd.zeroValue5
  t9 := Tryd.underlying9
  a9 := Tryd.isAgg9
  z9 := Tryd.sizeOf9
  v9 := Tryd.zeroValue9
  t21 := Tryd.underlying21
  a21 := Tryd.isAgg21
  z21 := Tryd.sizeOf21
  v21 := Tryd.zeroValue21
  t46 := Tryd.underlying38
  a46 := Tryd.isAgg38
  z46 := Tryd.sizeOf38
  v46 := Tryd.zeroValue38
  t105 := Tryd.underlying48
  a105 := Tryd.isAgg48
  z105 := Tryd.sizeOf48
  v105 := Tryd.zeroValue48
  t116 := Tryd.underlying42
  a116 := Tryd.isAgg42
  z116 := Tryd.sizeOf42
  t117 := Tryd.underlying43
  a117 := Tryd.isAgg43
  z117 := Tryd.sizeOf43
  v117 := Tryd.zeroValue43
  t119 := Tryd.underlying52
  a119 := Tryd.isAgg52
  z119 := Tryd.sizeOf52
  t124 := Tryd.underlying46
  a124 := Tryd.isAgg46
  z124 := Tryd.sizeOf46
  v124 := Tryd.zeroValue46
  t138 := Tryd.underlying54
  a138 := Tryd.isAgg54
  z138 := Tryd.sizeOf54
  v138 := Tryd.zeroValue54
  t139 := Tryd.underlying55
  a139 := Tryd.isAgg55
  z139 := Tryd.sizeOf55
  v139 := Tryd.zeroValue55
  g3 := by kernel_rfl
  g4 := by kernel_rfl }

theorem trim01 (s : ByteArray) (w : World) (hs : s.size ≤ 9223372036854775807) :
    Calls Tryd.prog 17 #[.string s, .string ⟨#[48, 49]⟩] w fun e w' => e = .returned (.string ⟨(Lib.trimS s.data.toList [48, 49]).toArray⟩) ∧ Below w.heap.size w w' :=
  Any.strings_Trim_laid Tryd.lays160 (by kernel_rfl) s ⟨#[48, 49]⟩ w hs (by decide) (ascii_of_all (by decide))
def bits01 (s : ByteArray) : Bool := decide ((s.size : Int) ≤ 300) && decide (Lib.trimS s.data.toList [48, 49] = [])
theorem good01 (s : ByteArray) (w : World) (hs : s.size ≤ 9223372036854775807) :
    Calls Tryd.prog 11 #[.string s] w fun e w' => e = .returned (.bool (bits01 s)) ∧ Below w.heap.size w w' := by
  have k := trim01 s w hs
  by_cases h : (s.size : Int) ≤ 300
  · have hd : decide ((s.size : Int) ≤ 300) = true := decide_eq_true h
    have hd2 : decide (s.size ≤ 300) = true := decide_eq_true (by omega)
    by_cases h2 : Lib.trimS s.data.toList [48, 49] = []
    · have hv : bits01 s = true := by unfold bits01; rw [hd, decide_eq_true h2]; rfl
      rw [hv]
      rw [h2] at k
      clear hv
      go_enter Tryd.func11, Tryd.ntmps11
      go_wp2_with (first | (go_at_call 17; refine k.mono ?_; rintro e w' ⟨rfl, hb⟩))
      go_ret
      exact ⟨rfl, hb⟩
    · have hv : bits01 s = false := by unfold bits01; rw [hd, decide_eq_false h2]; rfl
      rw [hv]
      obtain ⟨l, hl⟩ : ∃ l, Lib.trimS s.data.toList [48, 49] = l := ⟨_, rfl⟩
      rw [hl] at h2 k
      have h3 : (l == ([] : List UInt8)) = false := beq_eq_false_iff_ne.mpr h2
      have h4 : ((⟨l.toArray⟩ : ByteArray).toList == ([] : List UInt8)) = false := by rw [ByteArray.toList_mk]; exact h3
      clear hv
      go_enter Tryd.func11, Tryd.ntmps11
      go_wp2_with (first | (go_at_call 17; refine k.mono ?_; rintro e w' ⟨rfl, hb⟩))
      go_ret
      exact ⟨rfl, hb⟩
  · have hd : decide ((s.size : Int) ≤ 300) = false := decide_eq_false h
    have hd2 : decide (s.size ≤ 300) = false := decide_eq_false (by omega)
    have hv : bits01 s = false := by unfold bits01; rw [hd]; rfl
    rw [hv]
    clear hv
    go_enter Tryd.func11, Tryd.ntmps11
    go_wp2_with (first | (go_at_call 17; refine k.mono ?_; rintro e w' ⟨rfl, hb⟩))
    go_ret
    exact ⟨rfl, Below.refl _ _⟩
end Go.Proofs.YtkigjidjbjbjlaaDoor
