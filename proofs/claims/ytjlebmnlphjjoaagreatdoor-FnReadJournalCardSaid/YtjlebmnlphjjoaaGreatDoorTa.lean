import Derived.Test.YtjlebmnlphjjoaaGreatDoorQe
set_option linter.unusedVariables false
set_option linter.unusedSimpArgs false
/- The reader of draws; no condition. -/
open Go Go.Proofs.YtjlebmnlphjjoaaGreatDoor.Abs
namespace Go.Proofs.YtjlebmnlphjjoaaGreatDoor.Fx
set_option maxRecDepth 100000
set_option maxHeartbeats 4000000
set_option linter.unusedSimpArgs false
def u8 (x : Int) : PV := .int .u8 x
def rdr (b : List Int) (p : Nat) : PV := .agg [.ls 1 (b.map u8), .int .i64 p]
/-- What a reader's bytes are. -/
def Rdr (b : List Int) : Prop := b.length ≤ 2000 ∧ ∀ x ∈ b, 0 ≤ x ∧ x ≤ 255
theorem xor_pos (x y : Int) (hx : 0 ≤ x) (hx1 : x < 4611686018427387904) (hy : 0 ≤ y) (hy1 : y < 4611686018427387904) : 0 ≤ IntKind.wrap .i64 ((BitVec.ofInt 64 x ^^^ BitVec.ofInt 64 y).toNat : Int) := by
  show 0 ≤ IntKind.wrap .i64 ((BitVec.ofInt IntKind.i64.bits x ^^^ BitVec.ofInt IntKind.i64.bits y).toNat : Int)
  obtain ⟨a, rfl⟩ := Int.eq_ofNat_of_zero_le hx
  obtain ⟨b, rfl⟩ := Int.eq_ofNat_of_zero_le hy
  have ha : a < 2 ^ 62 := by have e : (2 : Nat) ^ 62 = 4611686018427387904 := by decide
                             omega
  have hb : b < 2 ^ 62 := by have e : (2 : Nat) ^ 62 = 4611686018427387904 := by decide
                             omega
  have hx : a ^^^ b < 2 ^ 62 := Nat.xor_lt_two_pow ha hb
  have ha' : a % 2 ^ IntKind.i64.bits = a := Nat.mod_eq_of_lt (Nat.lt_trans ha (by decide))
  have hb' : b % 2 ^ IntKind.i64.bits = b := Nat.mod_eq_of_lt (Nat.lt_trans hb (by decide))
  simp only [BitVec.ofInt_natCast, BitVec.toNat_xor, BitVec.toNat_ofNat, ha', hb']
  have e : (2 : Nat) ^ 62 = 4611686018427387904 := by decide
  rw [w64 (by omega) (by omega)]
  omega
theorem tmod_nat (a b : Nat) : Int.tmod (a : Int) b = ((a % b : Nat) : Int) := by
  rw [Int.tmod_eq_emod_of_nonneg (by omega)]; simp
theorem tdiv_nat (a b : Nat) : Int.tdiv (a : Int) b = ((a / b : Nat) : Int) := by
  rw [Int.tdiv_eq_ediv_of_nonneg (by omega)]; simp
theorem pk_ex (b : List Int) (p : Nat) (n : Int) (hb : Rdr b) (hp : p ≤ 1000000) (hn : 1 ≤ n) : ∃ v : Int, 0 ≤ v ∧ v < n ∧
    CF E 41 [.mp 900 0 0 0, .p (.int .i64 n)] [[.agg [.ls 1 (b.map u8), .int .i64 p]]] = some ⟨.p (.int .i64 v), [[.agg [.ls 1 (b.map u8), .int .i64 (p + 1 : Nat)]]], []⟩ := by
  obtain ⟨hl, hw⟩ := hb
  have e1 := w64s (n := p) (by omega)
  have e2 : IntKind.wrap .i64 (((p + 1 : Nat) : Int) - 1) = (p : Int) := by rw [w64] <;> omega
  have hn1 : ¬ n < 1 := by omega
  have hn0 : ¬ n = 0 := by omega
  by_cases h0 : b = []
  · subst h0
    refine ⟨0, by omega, by omega, ?_⟩
    rw [q41]; simp (contextual := true) (implicitDefEqProofs := false) (decide := true) (maxSteps := 1000000) only [x41, go_sem, e1, hn1]
  have hL : 0 < b.length := List.length_pos_iff.2 h0
  have hL0 : ¬ ((b.length : Int) = 0) := by omega
  by_cases h1 : p < b.length
  · have h1' : ((p : Int) < b.length) := by omega
    have h2 : b[p]? = some b[p] := List.getElem?_eq_getElem h1
    have hr := hw _ (List.getElem_mem h1)
    have er : IntKind.wrap .i64 b[p] = b[p] := w64 (by omega) (by omega)
    refine ⟨Int.tmod b[p] n, Int.tmod_nonneg _ hr.1, Int.tmod_lt_of_pos _ (by omega), ?_⟩
    generalize b[p] = c at *
    rw [q41]; simp (contextual := true) (implicitDefEqProofs := false) (decide := true) (maxSteps := 1000000) only [x41, go_sem, e1, e2, hn1, hn0, hL0, h1', h2, u8, er]
  · have h1' : ¬ ((p : Int) < b.length) := by omega
    have m1 : p % b.length < b.length := Nat.mod_lt _ hL
    have m2 : (p * 7 + 3) % b.length < b.length := Nat.mod_lt _ hL
    have d1 : p / b.length ≤ p := Nat.div_le_self _ _
    have h2 : b[p % b.length]? = some b[p % b.length] := List.getElem?_eq_getElem m1
    have h3 : b[(p * 7 + 3) % b.length]? = some b[(p * 7 + 3) % b.length] := List.getElem?_eq_getElem m2
    have r1 := hw _ (List.getElem_mem m1)
    have r2 := hw _ (List.getElem_mem m2)
    generalize b[p % b.length] = A at *
    generalize b[(p * 7 + 3) % b.length] = B at *
    have e3 : IntKind.wrap .i64 ((p : Int) * 7) = ((p * 7 : Nat) : Int) := by rw [w64] <;> omega
    have e4 : IntKind.wrap .i64 (((p * 7 : Nat) : Int) + 3) = ((p * 7 + 3 : Nat) : Int) := by rw [w64] <;> omega
    have t1 := tmod_nat p b.length
    have t2 := tmod_nat (p * 7 + 3) b.length
    have t3 := tdiv_nat p b.length
    have e5 : IntKind.wrap .i64 A = A := w64 (by omega) (by omega)
    have e6 : IntKind.wrap .i64 B = B := w64 (by omega) (by omega)
    have e7 : IntKind.wrap .i64 (A * 131) = A * 131 := w64 (by omega) (by omega)
    have e8 : IntKind.wrap .i64 (B * 1117) = B * 1117 := w64 (by omega) (by omega)
    have e9 : IntKind.wrap .i64 ((p : Int) * 29) = (p : Int) * 29 := w64 (by omega) (by omega)
    generalize p / b.length = D at *
    generalize p % b.length = M1 at *
    generalize (p * 7 + 3) % b.length = M2 at *
    have e10 : IntKind.wrap .i64 (D : Int) = D := w64 (by omega) (by omega)
    have e11 : IntKind.wrap .i64 ((D : Int) * 53) = (D : Int) * 53 := w64 (by omega) (by omega)
    have e12 : IntKind.wrap .i64 (A * 131 + B * 1117) = A * 131 + B * 1117 := w64 (by omega) (by omega)
    have e13 : IntKind.wrap .i64 (A * 131 + B * 1117 + (p : Int) * 29) = A * 131 + B * 1117 + (p : Int) * 29 := w64 (by omega) (by omega)
    have e14 : IntKind.wrap .i64 (A * 131 + B * 1117 + (p : Int) * 29 + (D : Int) * 53) = A * 131 + B * 1117 + (p : Int) * 29 + (D : Int) * 53 := w64 (by omega) (by omega)
    obtain ⟨T, hT⟩ : ∃ T, A * 131 + B * 1117 + (p : Int) * 29 + (D : Int) * 53 = T := ⟨_, rfl⟩
    have e14 := e14.trans hT
    have hS : 0 ≤ T := by omega
    have hS1 : T < 4611686018427387904 := by omega
    have t0 : 0 ≤ Int.tdiv T 64 := Int.tdiv_nonneg hS (by omega)
    have t4 : Int.tdiv T 64 ≤ T := Int.tdiv_le_self _ hS
    have e15 : IntKind.wrap .i64 (Int.tdiv T 64) = Int.tdiv T 64 := w64 (by omega) (by omega)
    have hX := xor_pos _ _ hS hS1 t0 (by omega)
    refine ⟨_, Int.tmod_nonneg n hX, Int.tmod_lt_of_pos _ (show 0 < n by omega), ?_⟩
    have i1 : ((M1 : Int) < b.length) := by omega
    have i2 : ((M2 : Int) < b.length) := by omega
    rw [q41]; simp (contextual := true) (implicitDefEqProofs := false) (decide := true) (maxSteps := 1000000) only [x41, go_sem, e1, e2, hn1, hn0, hL0, h1', h2, h3, u8, e3, e4, t1, t2, t3, e5, e6, e7, e8, e9, e10, e11, e12, e13, e14, e15]
    rfl
open Classical in
/-- What a reader picks. -/
noncomputable def pk (b : List Int) (p : Nat) (n : Int) : Int := if h : ∃ v : Int, 0 ≤ v ∧ v < n ∧
    CF E 41 [.mp 900 0 0 0, .p (.int .i64 n)] [[.agg [.ls 1 (b.map u8), .int .i64 p]]] = some ⟨.p (.int .i64 v), [[.agg [.ls 1 (b.map u8), .int .i64 (p + 1 : Nat)]]], []⟩ then h.choose else 0
@[go_sem] theorem e41 (b : List Int) (p : Nat) (n : Int) (hb : Rdr b) (hp : p ≤ 1000000) (hn : 1 ≤ n) :
    CF E 41 [.mp 900 0 0 0, .p (.int .i64 n)] [[.agg [.ls 1 (b.map u8), .int .i64 p]]] = some ⟨.p (.int .i64 (pk b p n)), [[.agg [.ls 1 (b.map u8), .int .i64 (p + 1 : Nat)]]], []⟩ := by
  have h := pk_ex b p n hb hp hn
  unfold pk; rw [dif_pos h]; exact h.choose_spec.2.2
theorem pk_bd {b : List Int} {p : Nat} {n : Int} (hb : Rdr b) (hp : p ≤ 1000000) (hn : 1 ≤ n) : 0 ≤ pk b p n ∧ pk b p n < n := by
  have h := pk_ex b p n hb hp hn
  unfold pk; rw [dif_pos h]; exact ⟨h.choose_spec.1, h.choose_spec.2.1⟩
noncomputable def od (b : List Int) (p : Nat) (n : Int) : Bool := decide (pk b p n = n - 1)
@[go_sem] theorem e47 (b : List Int) (p : Nat) (n : Int) (hb : Rdr b) (hp : p ≤ 1000000) (hn : 1 ≤ n) (hn2 : n ≤ 1000) :
    CF E 47 [.mp 900 0 0 0, .p (.int .i64 n)] [[.agg [.ls 1 (b.map u8), .int .i64 p]]] = some ⟨.p (.bool (od b p n)), [[.agg [.ls 1 (b.map u8), .int .i64 (p + 1 : Nat)]]], []⟩ := by
  have h1 : n > 0 := by omega
  have h2 : IntKind.wrap .i64 (n - 1) = n - 1 := w64 (by omega) (by omega)
  rw [q47]; simp (contextual := true) (implicitDefEqProofs := false) (decide := true) (maxSteps := 1000000) only [x47, go_sem, h1, h2, hb, hp, hn, od]
@[go_sem] theorem e047 (b : List Int) (p : Nat) :
    CF E 47 [.mp 900 0 0 0, .p (.int .i64 0)] [[.agg [.ls 1 (b.map u8), .int .i64 p]]] = some ⟨.p (.bool false), [[.agg [.ls 1 (b.map u8), .int .i64 p]]], []⟩ := by
  rw [q47]; simp (contextual := true) (implicitDefEqProofs := false) (decide := true) (maxSteps := 1000000) only [x47, go_sem]
@[go_sem] theorem e38 (b : List Int) (hb : b.length ≤ room) : CF E 38 [.p (.ls 1 (b.map u8))] [] = some ⟨.mp 950 0 0 0, [], [[.p (.agg [.ls 1 ((b.take 2000).map u8), .int .i64 (0 : Nat)])]]⟩ := by
  by_cases h : b.length ≤ 2000
  · have h1 : ¬ ((b.length : Int) > 2000) := by omega
    rw [q38]; simp (contextual := true) (implicitDefEqProofs := false) (decide := true) (maxSteps := 1000000) only [x38, go_sem, h1]
    simp [List.take_of_length_le h]
  · have h1 : ((b.length : Int) > 2000) := by omega
    have h2 : ((2000 : Int) ≤ b.length) := by omega
    rw [q38]; simp (contextual := true) (implicitDefEqProofs := false) (decide := true) (maxSteps := 1000000) only [x38, go_sem, h1, h2]
    simp [List.map_take]
theorem Rdr.open {b : List Int} (h : ∀ x ∈ b, 0 ≤ x ∧ x ≤ 255) : Rdr (b.take 2000) := ⟨by simp; omega, fun x hx => h x (List.mem_of_mem_take hx)⟩
noncomputable def wgh (b : List Int) (p : Nat) : Say := ⟨pk b p 6, pk b (p + 1) 4, pk b (p + 1 + 1) 4⟩
@[go_sem] theorem e101 (b : List Int) (p : Nat) (hb : Rdr b) (hp : p ≤ 900000) :
    CF E 101 [.mp 900 0 0 0, .p (.int .i64 0)] [[.agg [.ls 1 (b.map u8), .int .i64 p]]] = some ⟨.p (.agg [.int .i64 (wgh b p).f, .int .i64 (wgh b p).o, .int .i64 (wgh b p).t]), [[.agg [.ls 1 (b.map u8), .int .i64 (p + 1 + 1 + 1 : Nat)]]], []⟩ := by
  have h0 : p ≤ 1000000 := by omega
  have h1 : p + 1 ≤ 1000000 := by omega
  have h2 : p + 1 + 1 ≤ 1000000 := by omega
  rw [q101]; simp (contextual := true) (implicitDefEqProofs := false) (decide := true) (maxSteps := 1000000) only [x101, go_sem, hb, h0, h1, h2, wgh]
theorem wgh_ok {b : List Int} {p : Nat} (hb : Rdr b) (hp : p ≤ 900000) : wOk (wgh b p) = true := by
  have h0 := pk_bd (p := p) (n := 6) hb (by omega) (by omega)
  have h1 := pk_bd (p := p + 1) (n := 4) hb (by omega) (by omega)
  have h2 := pk_bd (p := p + 1 + 1) (n := 4) hb (by omega) (by omega)
  exact decide_eq_true ⟨h0.1, show pk b p 6 ≤ 5 by omega, h1.1, show pk b (p + 1) 4 ≤ 3 by omega, h2.1, show pk b (p + 1 + 1) 4 ≤ 3 by omega⟩
end Go.Proofs.YtjlebmnlphjjoaaGreatDoor.Fx
