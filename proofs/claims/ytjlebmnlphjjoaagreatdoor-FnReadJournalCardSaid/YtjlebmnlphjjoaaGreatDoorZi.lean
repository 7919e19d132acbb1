import Derived.Test.YtjlebmnlphjjoaaGreatDoorE
import Derived.Shelf.Strings.Search2
import Derived.Test.YtjlebmnlphjjoaaGreatDoorChecked
set_option linter.unusedVariables false
set_option linter.unusedSimpArgs false
/- Where a byte stands in a text: the library's function, by its shelf; no condition beside the shelf's laying. -/
open Go Go.Proofs.YtjlebmnlphjjoaaGreatDoor.Abs
namespace Go.Proofs.YtjlebmnlphjjoaaGreatDoor.Fx
set_option maxRecDepth 100000
set_option linter.unusedSimpArgs false
set_option linter.unusedVariables false
/-! the shelf's laying, as its own command logs it -/
def lays219_ren : Go.Shelf.Ren := ⟨fun | 219 => 104 | 217 => 128 | 225 => 129 | 224 => 130 | 267 => 131 | 266 => 158 | 314 => 159 | n => n, fun | 9 => 9 | 3 => 3 | 4 => 4 | 5 => 5 | 46 => 138 | 146 => 167 | 51 => 166 | n => n, fun | 1 => 0 | n => n⟩
theorem lays219 : Go.Proofs.Lays.n219 Tryz.prog lays219_ren where
  mixed := by kernel_rfl
  f217 := Tryz.func128.trans (congrArg some (by kernel_rfl))
  f219 := Tryz.func104.trans (congrArg some (by kernel_rfl))
  f224 := Tryz.func130.trans (congrArg some (by kernel_rfl))
  f225 := Tryz.func129.trans (congrArg some (by kernel_rfl))
  f266 := Tryz.func158.trans (congrArg some (by kernel_rfl))
  f267 := Tryz.func131.trans (congrArg some (by kernel_rfl))
  f314 := Tryz.func159.trans (congrArg some (by kernel_rfl))
  t3 := Tryz.underlying3
  a3 := Tryz.isAgg3
  z3 := Tryz.sizeOf3
  v3 := Tryz.zeroValue3
  t4 := Tryz.underlying4
  a4 := Tryz.isAgg4
  z4 := Tryz.sizeOf4
  v4 := Tryz.zeroValue4
  t5 := Tryz.underlying5
  a5 := Tryz.isAgg5
  z5 := Tryz.sizeOf5
  v5 := Tryz.zeroValue5
  t9 := Tryz.underlying9
  a9 := Tryz.isAgg9
  z9 := Tryz.sizeOf9
  v9 := Tryz.zeroValue9
  t46 := Tryz.underlying138
  a46 := Tryz.isAgg138
  z46 := Tryz.sizeOf138
  v46 := Tryz.zeroValue138
  t51 := Tryz.underlying166
  a51 := Tryz.isAgg166
  z51 := Tryz.sizeOf166
  v51 := Tryz.zeroValue166
  t146 := Tryz.underlying167
  a146 := Tryz.isAgg167
  z146 := Tryz.sizeOf167
  v146 := Tryz.zeroValue167
  g1 := by kernel_rfl
theorem io_none (r : AV) : outS ⟨r, [], []⟩ = inS [] := by
  funext k
  unfold outS inS
  by_cases h1 : k < 900
  · rw [if_pos h1, if_pos h1]
  · rw [if_neg h1, if_neg h1]
    by_cases h2 : k < 950
    · rw [if_pos h2]
    · rw [if_neg h2]; simp
theorem idx_ok (vs : List AV) (bs : List (List PV)) (out : Out) (h : idxX vs bs = some out) : CallOk Tryz.prog 104 vs bs out := by
  unfold idxX at h
  split at h
  · rename_i s c
    split at h
    · rename_i u hu
      simp only [Option.some.injEq] at h; subst h
      intro hb50 w g args hI hr
      match args, hr with
      | [v0, v1], ⟨h0, h1, _⟩ =>
      have h0' : RepP g.fz v0 (.str s) := h0
      have h1' : RepP g.fz v1 (.str c) := h1
      cases h0'; cases h1'
      obtain rfl : c = ⟨#[u]⟩ := by
        obtain ⟨⟨l⟩⟩ := c
        simp at hu
        rw [hu]
      refine ⟨fun w' => enters_of Tryz.func104 (by kernel_rfl) rfl _ _, ?_⟩
      refine (Any.stringslite_Index_one lays219 s u w).mono fun e w' ⟨he, hw⟩ => ?_
      subst hw
      refine ⟨_, he, g, ?_, rfl, fun j b b' hb _ => by simp at hb, RepP.int _ _⟩
      rw [io_none]; exact hI
    · cases h
  · cases h
end Go.Proofs.YtjlebmnlphjjoaaGreatDoor.Fx
