-- Written by a program of this session (wip/patch_print.py, over the kit's print) and not by hand; Lean checks every word.
import Derived.Test.YtfjfdnododnepaaPFnReplacedInxb
import Derived.Test.YtfjfdnododnepaaPFnReplacedInx0
import Derived.Test.YtfjfdnododnepaaPFnReplacedInx1
import Derived.Test.YtfjfdnododnepaaPFnReplacedInx7
import Derived.Test.YtfjfdnododnepaaPFnReplacedInx8
import Derived.Lib.LazyBuf
import Derived.Deep.RegionHeld3
namespace Go.Proofs.Ytfjfdnododnepaa.PFnReplacedIn
open Go.RowKit Go.Proofs.YtfjfdnododnepaaW.PrintWords Go.Proofs.YtfjfdnododnepaaW.PrintLast Go.Proofs.YtfjfdnododnepaaW.PrintMore
attribute [local go_sem] max2_int min2_int max_two min_two max_three min_three max_four min_four   -- for this text's walks alone
set_option linter.unusedVariables false
set_option linter.unusedSimpArgs false

/-! ### impl_turnBy: function 53 -/
def impl_turnBy.f (a0 : Int) (a1 : Bool) (a2 : Bool) : Option (Int) := if a1 = true then (some a0) else (if a2 = true then (some (wrap64 (-a0))) else (some 0))
set_option maxHeartbeats 8000000 in
set_option maxRecDepth 100000 in
theorem impl_turnBy.calls (a0 : Int) (a1 : Bool) (a2 : Bool) (r : Int) (w : World) (h : impl_turnBy.f a0 a1 a2 = some r) :
    Calls Try.prog 53 #[.int .i64 a0, .bool a1, .bool a2] w fun e w' => e = .returned (.int .i64 r) ∧ Drawn0 w w' := by
  have H : (if a1 = true then (some a0) else (if a2 = true then (some (wrap64 (-a0))) else (some 0))) = some r := h; clear h; by_cases c4 : a1 = true
  · subst c4; (have H1 : (some a0) = some r := by rw [if_pos rfl] at H; exact H); clear H; have H := H1; clear H1; obtain rfl := Option.some.inj H; go_enter Try.func53, Try.ntmps53; go_wp2; go_ret; exact ⟨mr, by repeat (first | exact Drawn0.refl _ | apply Drawn0.step)⟩
  · replace c4 := Bool.eq_false_iff.mpr c4; subst c4; (have H1 : (if a2 = true then (some (wrap64 (-a0))) else (some 0)) = some r := by rw [if_neg (show ¬ (false = true) by decide)] at H; exact H); clear H; have H := H1; clear H1; by_cases c5 : a2 = true
    · subst c5; (have H1 : (some (wrap64 (-a0))) = some r := by rw [if_pos rfl] at H; exact H); clear H; have H := H1; clear H1; obtain rfl := Option.some.inj H; go_enter Try.func53, Try.ntmps53; go_wp2; go_ret; exact ⟨mr, by repeat (first | exact Drawn0.refl _ | apply Drawn0.step)⟩
    · replace c5 := Bool.eq_false_iff.mpr c5; subst c5; (have H1 : (some 0) = some r := by rw [if_neg (show ¬ (false = true) by decide)] at H; exact H); clear H; have H := H1; clear H1; obtain rfl := Option.some.inj H; go_enter Try.func53, Try.ntmps53; go_wp2; go_ret; exact ⟨mr, by repeat (first | exact Drawn0.refl _ | apply Drawn0.step)⟩

/-! ### impl_placeOf: function 63 -/
def impl_placeOf.f (a0 : Int) (a1 : Int) : Option (Int) := some (wrap64 ((wrap64 (Int.tdiv (wrap64 (a0 * (wrap64 (a0 + 1)))) 2)) + a1))
set_option maxHeartbeats 8000000 in
set_option maxRecDepth 100000 in
theorem impl_placeOf.calls (a0 : Int) (a1 : Int) (r : Int) (w : World) (h : impl_placeOf.f a0 a1 = some r) :
    Calls Try.prog 63 #[.int .i64 a0, .int .i64 a1] w fun e w' => e = .returned (.int .i64 r) ∧ Drawn0 w w' := by
  have H : (some (wrap64 ((wrap64 (Int.tdiv (wrap64 (a0 * (wrap64 (a0 + 1)))) 2)) + a1))) = some r := h; clear h; obtain rfl := Option.some.inj H; go_enter Try.func63, Try.ntmps63; go_wp2; go_ret; exact ⟨mr, by repeat (first | exact Drawn0.refl _ | apply Drawn0.step)⟩

/-! ### impl_holds: function 59 -/
def impl_holds.f (l0 : List Int) (a1 : Int) (a2 : Int) : Option (Bool) := (impl_placeOf.f a1 a2).bind fun t208 => (if 0 ≤ t208 then (if t208 < (l0.length : Int) then (some ((rd l0 t208) == 1)) else (none)) else (none))
set_option maxHeartbeats 8000000 in
set_option maxRecDepth 100000 in
theorem impl_holds.calls (A0 : Option Addr) (c0 : Nat) (l0 : List Int) (a1 : Int) (a2 : Int) (r : Bool) (w : World) (hr0 : Kd.C (Kd.int .i64) w A0 l0.length l0) (hc0 : l0.length ≤ c0) (h : impl_holds.f l0 a1 a2 = some r) :
    Calls Try.prog 59 #[.slice A0 l0.length c0, .int .i64 a1, .int .i64 a2] w fun e w' => e = .returned (.bool r) ∧ Drawn0 w w' := by
  have HR0 := Aside0.mk hr0; have HC0 := Aside0.mk hc0; clear hr0 hc0; have H : ((impl_placeOf.f a1 a2).bind fun t208 => (if 0 ≤ t208 then (if t208 < (l0.length : Int) then (some ((rd l0 t208) == 1)) else (none)) else (none))) = some r := h; clear h; replace H := Option.bind_eq_some_iff.mp H; obtain ⟨t208, A40, H⟩ := H; replace H : (if 0 ≤ t208 then (if t208 < (l0.length : Int) then (some ((rd l0 t208) == 1)) else (none)) else (none)) = some r := H; have A4 := Aside0.mk A40; clear A40; by_cases c5 : 0 ≤ t208
  · rw [if_pos c5] at H; have c5b0 : decide (0 ≤ t208) = true := decide_eq_true c5; clear c5; by_cases c6 : t208 < (l0.length : Int)
    · rw [if_pos c6] at H; have c6b0 : decide (t208 < (l0.length : Int)) = true := decide_eq_true c6; clear c6; obtain rfl := Option.some.inj H; go_enter Try.func59, Try.ntmps59; go_wp2_with (first | ((with_reducible refine gate_callee (f := 63) rfl ?_); refine goesL_ (some 10) rfl rfl Try.func63 (by kernel_rfl) rfl #[.int .i64 a1, .int .i64 a2] rfl gf ?_; (with_reducible refine (impl_placeOf.calls a1 a2 t208 _ A4.out).mono ?_); rintro e w' ⟨rfl, ⟨nd, rfl⟩⟩; refine ⟨_, rfl, ?_⟩; have p209 : 0 ≤ (t208 : Int) := of_decide_eq_true fa; have q209 : t208 < (l0.length : Int) := of_decide_eq_true fa; obtain ⟨ad209, e209, hx209_0⟩ := Kd.at_int HR0.out t208 p209 q209; cases e209; replace p209 := eq_true p209; replace q209 := eq_true q209)); go_ret; exact ⟨mr, by repeat (first | exact Drawn0.refl _ | apply Drawn0.step)⟩
    · rw [if_neg c6] at H; exact absurd H (by simp)
  · rw [if_neg c5] at H; exact absurd H (by simp)

/-! ### impl_stays: function 75 -/
theorem iplc_all : ∀ a s : Fin 6, impl_placeOf.f (a.val : Int) (s.val : Int) = some ((a.val * (a.val + 1) / 2 + s.val : Nat) : Int) := by decide +kernel
theorem ihold {l : List Int} (hl : l.length = 21) (a s : Nat) (hs : s ≤ a) (ha : a ≤ 5) : impl_holds.f l (a : Int) (s : Int) = some (hold l a s) := by
  unfold impl_holds.f; have hp := iplc_all ⟨a, by omega⟩ ⟨s, by omega⟩; simp only at hp; rw [hp]; (have hlt : a * (a + 1) / 2 + s < 21 := by rcases (show a = 0 ∨ a = 1 ∨ a = 2 ∨ a = 3 ∨ a = 4 ∨ a = 5 by omega) with rfl | rfl | rfl | rfl | rfl | rfl <;> omega); simp only [Option.bind_some]; rw [if_pos (by omega), if_pos (by omega)]; unfold rd hold; rw [Int.toNat_natCast]
theorem stay_true {t : List Int} {p : Nat → Nat → Bool} (h : ∀ a s : Nat, a < 6 → s ≤ a → (!(hold t a s) || p a s) = true) : stay t p = true := by
  unfold stay; rw [List.all_eq_true]; intro a ha; rw [List.all_eq_true]; intro s hs; exact h a s (List.mem_range.1 ha) (by have := List.mem_range.1 hs; omega)
theorem stay_false {t : List Int} {p : Nat → Nat → Bool} (a s : Nat) (ha : a < 6) (hs : s ≤ a) (h1 : hold t a s = true) (h2 : p a s = false) : stay t p = false := by
  cases hc : stay t p with
  | false => rfl
  | true =>
    unfold stay at hc; rw [List.all_eq_true] at hc; have := hc a (List.mem_range.2 ha); rw [List.all_eq_true] at this; have := this s (List.mem_range.2 (by omega)); rw [h1, h2] at this; exact absurd this (by decide)
theorem bool_re {a b : Bool} (h : a = b) : Ending.returned (.bool a) = .returned (.bool b) := by rw [h]
set_option maxHeartbeats 8000000 in
set_option maxRecDepth 100000 in
theorem impl_stays.calls (c : Nat) (caps : Array Value) (p : Nat → Nat → Bool) (A0 : Option Addr) (c0 : Nat) (l0 : List Int) (w : World) (h21 : l0.length = 21) (hr0 : Kd.C (Kd.int .i64) w A0 l0.length l0) (hc0 : l0.length ≤ c0) (hen : ∀ (args : Array Value) (wx : World), (callFunc c args).run Try.prog wx = .ok (.enter c args) wx)
    (hso : ∀ n, ∀ a s : Nat, s ≤ a → a ≤ 5 → Calls Try.prog c (#[.int .i64 a, .int .i64 s] ++ caps) (w.drewN n) fun e w' => e = .returned (.bool (p a s)) ∧ Drawn0 (w.drewN n) w') :
    Calls Try.prog 75 #[.slice A0 l0.length c0, .func (.func c) #[] caps] w fun e w' => e = .returned (.bool (stay l0 p)) ∧ Drawn0 w w' := by
  have HSO := Aside0.mk hso; have HH := Az (fun (n a s : Nat) (hs : s ≤ a) (ha : a ≤ 5) => impl_holds.calls A0 c0 l0 (a : Int) (s : Int) _ (w.drewN n) (Kd.C_drewN hr0 n) hc0 (ihold h21 a s hs ha)); clear hso hr0 hc0 h21; go_enter Try.func75, Try.ntmps75; go_wp2; go_loopg [7] 7 (fun kq v7 w' => ∃ (a n : Nat), v7 = .int .i64 a ∧ Aside0 (kq + a = 7 ∧ a ≤ 6 ∧ ∀ a' s' : Nat, a' < a → s' ≤ a' → (!(hold l0 a' s') || p a' s') = true) ∧ w' = w.drewN n); case atStart => exact ⟨0, 0, rfl, ⟨by omega, by omega, fun a' s' h => absurd h (by omega)⟩, rfl⟩
  case round =>
    obtain ⟨a, n, rfl, HA, rfl⟩ := hrel
    cases gk with
    | zero => exact absurd HA.out (by omega)
    | succ k1 =>
      by_cases ha : a < 6
      · (have c5b : decide ((a : Int) < 6) = true := by simp; omega); have E1 : Aside0 (wrap64 ((a : Int) + 1) = (a : Int) + 1) := ⟨by unfold wrap64; omega⟩; have E1v : Aside0 (IntKind.i64.wrap ((a : Int) + 1) = (a : Int) + 1) := ⟨by rw [IntKind.wrap_i64]; omega⟩; have HL := Aside0.mk ha; clear ha; have e1 := E1.out; have e1v := E1v.out; go_wp2; go_loopg [12] (a + 2) (fun kq v12 w' => ∃ (s n : Nat), v12 = .int .i64 s ∧ Aside0 (kq + s = a + 2 ∧ s ≤ a + 1 ∧ ∀ s' : Nat, s' < s → (!(hold l0 a s') || p a s') = true) ∧ w' = w.drewN n); case atStart => exact ⟨0, n, rfl, ⟨by omega, by omega, fun s' h => absurd h (by omega)⟩, rfl⟩
        case round =>
          obtain ⟨s, m, rfl, HA2, rfl⟩ := hrel
          cases gk with
          | zero => exact absurd HA2.out (by omega)
          | succ k2 =>
            by_cases hs : s < a + 1
            · (have c6b : decide ((s : Int) < (a : Int) + 1) = true := by simp; omega); have E2 : Aside0 (wrap64 ((s : Int) + 1) = (s : Int) + 1) := ⟨by have := HL.out; unfold wrap64; omega⟩; have HB := Az (fun n => HH.out n a s (by omega) (by have := HL.out; omega)); have HC := Az (fun n => HSO.out n a s (by omega) (by have := HL.out; omega)); have HS := Aside0.mk hs; clear hs
              cases hX : hold l0 a s with
              | false =>
                rw [hX] at HB; have HX := Aside0.mk hX; clear hX; have e2 := E2.out; go_wp2_with (go_at_call 59; (with_reducible refine (HB.out _).mono ?_); rintro e w' ⟨rfl, ⟨nd, rfl⟩⟩; rw [World.drewN_drewN]); go_roundg k2; case measure => omega
                case rel =>
                  refine ⟨s + 1, _, (by go_num), ⟨by have := HA2.out.1; omega, by have := HS.out; omega, fun s' hs' => ?_⟩, rfl⟩; by_cases hss : s' = s
                  · subst hss; rw [HX.out]; rfl
                  · exact HA2.out.2.2 s' (by omega)
              | true =>
                rw [hX] at HB; have HX := Aside0.mk hX; clear hX
                cases hY : p a s with
                | true =>
                  rw [hY] at HC; have HY := Aside0.mk hY; clear hY; have e2 := E2.out; go_wp2_with (first | (go_at_call 59; (with_reducible refine (HB.out _).mono ?_); rintro e w' ⟨rfl, ⟨nd, rfl⟩⟩; rw [World.drewN_drewN]) | ((with_reducible refine (HC.out _).mono ?_); rintro e w' ⟨rfl, ⟨nd2, rfl⟩⟩; rw [World.drewN_drewN])); go_roundg k2; case measure => omega
                  case rel =>
                    refine ⟨s + 1, _, (by go_num), ⟨by have := HA2.out.1; omega, by have := HS.out; omega, fun s' hs' => ?_⟩, rfl⟩; by_cases hss : s' = s
                    · subst hss; rw [HY.out]; simp
                    · exact HA2.out.2.2 s' (by omega)
                | false =>
                  rw [hY] at HC; have HE : Aside0 (stay l0 p = false) := ⟨stay_false a s HL.out (by have := HS.out; omega) HX.out hY⟩; clear hY; have e2 := E2.out; go_wp2_with (first | (go_at_call 59; (with_reducible refine (HB.out _).mono ?_); rintro e w' ⟨rfl, ⟨nd, rfl⟩⟩; rw [World.drewN_drewN]) | ((with_reducible refine (HC.out _).mono ?_); rintro e w' ⟨rfl, ⟨nd2, rfl⟩⟩; rw [World.drewN_drewN])); go_ret; exact ⟨bool_re HE.out.symm, by repeat (first | exact Drawn0.refl _ | apply Drawn0.step)⟩
            · (have c6b : decide ((s : Int) < (a : Int) + 1) = false := by simp; omega); (have es : s = a + 1 := by have := HA2.out; omega); have HS := Aside0.mk es; clear hs es; go_wp2; go_roundg k1; case measure => omega
              case rel =>
                refine ⟨a + 1, _, (by go_num), ⟨by have := HA.out.1; omega, by have := HL.out; omega, fun a' s' ha' hs' => ?_⟩, rfl⟩; by_cases haa : a' = a
                · subst haa; exact HA2.out.2.2 s' (by have := HS.out; omega)
                · exact HA.out.2.2 a' s' (by omega) hs'
      · (have c5b : decide ((a : Int) < 6) = false := by simp; omega); have HE : Aside0 (stay l0 p = true) := ⟨stay_true (fun a' s' ha' hs' => HA.out.2.2 a' s' (by omega) hs')⟩; clear ha; go_wp2; go_ret; exact ⟨bool_re HE.out.symm, by repeat (first | exact Drawn0.refl _ | apply Drawn0.step)⟩

/-! ### impl_moreAre: function 54 -/
def impl_moreAre.q (l0 : List Int) : Nat → Nat → Bool := fun a s => a == 5 || (hold l0 (a + 1) s && hold l0 (a + 1) (s + 1))
set_option maxHeartbeats 8000000 in
set_option maxRecDepth 100000 in
theorem impl_moreAre.inner (g : Nat) (A0 : Option Addr) (c0 : Nat) (l0 : List Int) (h21 : l0.length = 21) (a s : Nat) (w : World) (hg : w.cell? ⟨g, 0, none⟩ = some (.slice A0 l0.length c0)) (hr0 : Kd.C (Kd.int .i64) w A0 l0.length l0) (hc0 : l0.length ≤ c0) (hs : s ≤ a) (ha : a ≤ 5) :
    Calls Try.prog 76 (#[.int .i64 a, .int .i64 s] ++ #[.pointer (some ⟨g, 0, none⟩)]) w fun e w' => e = .returned (.bool (impl_moreAre.q l0 a s)) ∧ Drawn0 w w' := by
  by_cases c : a = 5
  · have HV : Aside0 (impl_moreAre.q l0 a s = true) := ⟨by simp [impl_moreAre.q, c]⟩; (have cb : ((a : Int) == 5) = true := by simp [c]); have HR0 := Aside0.mk hr0; clear hr0 hc0 hs ha h21 c; go_enter Try.func76, Try.ntmps76; go_wp2; go_ret; exact ⟨bool_re (by first | (rw [HV.out]; done) | (rw [HV.out]; first | rfl | (simp; done))), by repeat (first | exact Drawn0.refl _ | apply Drawn0.step)⟩
  · have HV : Aside0 (impl_moreAre.q l0 a s = (hold l0 (a + 1) s && hold l0 (a + 1) (s + 1))) := ⟨by simp [impl_moreAre.q, c]⟩; (have cb : ((a : Int) == 5) = false := by simp; omega); have H1 := Az (fun wx (hx : Kd.C (Kd.int .i64) wx A0 l0.length l0) => impl_holds.calls A0 c0 l0 ((a : Int) + 1) ((s : Int)) (hold l0 (a + 1) (s)) wx hx hc0 (by rw [show ((a : Int) + 1 : Int) = ((a + 1 : Nat) : Int) by omega, show ((s : Int) : Int) = ((s : Nat) : Int) by omega]; exact ihold h21 _ _ (by omega) (by omega))); have H2 := Az (fun wx (hx : Kd.C (Kd.int .i64) wx A0 l0.length l0) => impl_holds.calls A0 c0 l0 ((a : Int) + 1) ((s : Int) + 1) (hold l0 (a + 1) (s + 1)) wx hx hc0 (by rw [show ((a : Int) + 1 : Int) = ((a + 1 : Nat) : Int) by omega, show ((s : Int) + 1 : Int) = ((s + 1 : Nat) : Int) by omega]; exact ihold h21 _ _ (by omega) (by omega))); have E1 : Aside0 (wrap64 ((a : Int) + 1) = (a : Int) + 1) := ⟨by unfold wrap64; omega⟩; have E2 : Aside0 (wrap64 ((s : Int) + 1) = (s : Int) + 1) := ⟨by unfold wrap64; omega⟩; obtain ⟨X, hX⟩ : ∃ X, hold l0 (a + 1) s = X := ⟨_, rfl⟩; rw [hX] at H1 HV; clear hX; cases X
    all_goals
      have HR0 := Aside0.mk hr0; clear hr0 hc0 hs ha h21 c; have e1 := E1.out; have e2 := E2.out; go_enter Try.func76, Try.ntmps76; go_wp2_with (first | (go_at_call 59; (with_reducible refine (H1.out w HR0.out).mono ?_); rintro e w' ⟨rfl, ⟨nd, rfl⟩⟩) | (go_at_call 59; (with_reducible refine (H1.out (w.drewN _) (Kd.C_drewN HR0.out _)).mono ?_); rintro e w' ⟨rfl, ⟨nd, rfl⟩⟩) | (go_at_call 59; (with_reducible refine (H2.out w HR0.out).mono ?_); rintro e w' ⟨rfl, ⟨nd, rfl⟩⟩) | (go_at_call 59; (with_reducible refine (H2.out (w.drewN _) (Kd.C_drewN HR0.out _)).mono ?_); rintro e w' ⟨rfl, ⟨nd, rfl⟩⟩)); go_ret; exact ⟨bool_re (by first | (rw [HV.out]; done) | (rw [HV.out]; first | rfl | (simp; done))), by repeat (first | exact Drawn0.refl _ | apply Drawn0.step)⟩
set_option maxHeartbeats 8000000 in
set_option maxRecDepth 100000 in
theorem impl_moreAre.calls (A0 : Option Addr) (c0 : Nat) (l0 : List Int) (w : World) (h21 : l0.length = 21) (hr0 : Kd.C (Kd.int .i64) w A0 l0.length l0) (hc0 : l0.length ≤ c0) :
    Calls Try.prog 54 #[.slice A0 l0.length c0] w fun e w' => e = .returned (.bool (mAre l0)) ∧ Below w.heap.size w w' := by
  have hC := Kd.C_alloc hr0 (.cells #[.slice A0 l0.length c0] 29)
  have HT := Az (impl_stays.calls 76 #[.pointer (some ⟨w.heap.size, 0, none⟩)] (impl_moreAre.q l0) A0 c0 l0 (w.alloc (.cells #[.slice A0 l0.length c0] 29)) h21 hC hc0 (fun args wx => enters_ Try.func76 (by kernel_rfl) rfl args wx)
    (fun n a s hs ha => impl_moreAre.inner w.heap.size A0 c0 l0 h21 a s ((w.alloc (.cells #[.slice A0 l0.length c0] 29)).drewN n) (by rw [World.cell?_drewN, World.cell?_alloc_at _ _ _ _ rfl]; rfl) (Kd.C_drewN hC n) hc0 hs ha))
  clear hr0 hc0 h21 hC; (have hmf : ∀ (fn : Fn) (first cap : Array Value) (w : World), (Instr.makeFunc fn first cap).run Try.prog w = .ok (.func fn first cap) w := fun _ _ _ _ => rfl); go_enter Try.func54, Try.ntmps54; go_wp2_with (first | (go_at_call 75; (with_reducible refine HT.out.mono ?_); rintro e w' ⟨rfl, ⟨nd, rfl⟩⟩)); go_ret; exact ⟨rfl, by repeat (first | exact below_alloc (Below.refl _ _) _ | apply pw_below_drewN)⟩

/-! ### impl_fewerAre: function 55 -/
def impl_fewerAre.q (l0 : List Int) : Nat → Nat → Bool := fun a s => (s == 0 || hold l0 (a - 1) (s - 1)) && (s == a || hold l0 (a - 1) s)
set_option maxHeartbeats 8000000 in
set_option maxRecDepth 100000 in
theorem impl_fewerAre.inner (g : Nat) (A0 : Option Addr) (c0 : Nat) (l0 : List Int) (h21 : l0.length = 21) (a s : Nat) (w : World) (hg : w.cell? ⟨g, 0, none⟩ = some (.slice A0 l0.length c0)) (hr0 : Kd.C (Kd.int .i64) w A0 l0.length l0) (hc0 : l0.length ≤ c0) (hs : s ≤ a) (ha : a ≤ 5) :
    Calls Try.prog 77 (#[.int .i64 a, .int .i64 s] ++ #[.pointer (some ⟨g, 0, none⟩)]) w fun e w' => e = .returned (.bool (impl_fewerAre.q l0 a s)) ∧ Drawn0 w w' := by
  by_cases c : s = 0
  · by_cases d : s = a
    · skip; (have cb : ((s : Int) == 0) = true := by simp; omega); (have cb2 : ((s : Int) == (a : Int)) = true := by simp; omega); (have hz : (s == 0) = true := by simp [c]); (have he : (s == a) = true := by simp [d]); have HV : Aside0 (impl_fewerAre.q l0 a s = (true && true)) := ⟨by unfold impl_fewerAre.q; simp only [hz, he, Bool.true_or, Bool.false_or]⟩; clear hz he; have E1 : Aside0 (wrap64 ((a : Int) - 1) = (a : Int) - 1) := ⟨by unfold wrap64; omega⟩; have E2 : Aside0 (wrap64 ((s : Int) - 1) = (s : Int) - 1) := ⟨by unfold wrap64; omega⟩; have HR0 := Aside0.mk hr0; clear hr0 hc0 hs ha h21 c d; have e1 := E1.out; have e2 := E2.out; go_enter Try.func77, Try.ntmps77; go_wp2; go_ret; exact ⟨bool_re (by first | (rw [HV.out]; done) | (rw [HV.out]; first | rfl | (simp; done))), by repeat (first | exact Drawn0.refl _ | apply Drawn0.step)⟩
    · skip; (have cb : ((s : Int) == 0) = true := by simp; omega); (have cb2 : ((s : Int) == (a : Int)) = false := by simp; omega); (have hz : (s == 0) = true := by simp [c]); (have he : (s == a) = false := by simp [d]); have HV : Aside0 (impl_fewerAre.q l0 a s = (true && hold l0 (a - 1) s)) := ⟨by unfold impl_fewerAre.q; simp only [hz, he, Bool.true_or, Bool.false_or]⟩; clear hz he; have H2 := Az (fun wx (hx : Kd.C (Kd.int .i64) wx A0 l0.length l0) => impl_holds.calls A0 c0 l0 ((a : Int) - 1) ((s : Int)) (hold l0 (a - 1) (s)) wx hx hc0 (by rw [show ((a : Int) - 1 : Int) = ((a - 1 : Nat) : Int) by omega, show ((s : Int) : Int) = ((s : Nat) : Int) by omega]; exact ihold h21 _ _ (by omega) (by omega))); have E1 : Aside0 (wrap64 ((a : Int) - 1) = (a : Int) - 1) := ⟨by unfold wrap64; omega⟩; have E2 : Aside0 (wrap64 ((s : Int) - 1) = (s : Int) - 1) := ⟨by unfold wrap64; omega⟩; have HR0 := Aside0.mk hr0; clear hr0 hc0 hs ha h21 c d; have e1 := E1.out; have e2 := E2.out; go_enter Try.func77, Try.ntmps77; go_wp2_with (first | (go_at_call 59; (with_reducible refine (H2.out w HR0.out).mono ?_); rintro e w' ⟨rfl, ⟨nd, rfl⟩⟩) | (go_at_call 59; (with_reducible refine (H2.out (w.drewN _) (Kd.C_drewN HR0.out _)).mono ?_); rintro e w' ⟨rfl, ⟨nd, rfl⟩⟩)); go_ret; exact ⟨bool_re (by first | (rw [HV.out]; done) | (rw [HV.out]; first | rfl | (simp; done))), by repeat (first | exact Drawn0.refl _ | apply Drawn0.step)⟩
  · by_cases d : s = a
    · skip; (have cb : ((s : Int) == 0) = false := by simp; omega); (have cb2 : ((s : Int) == (a : Int)) = true := by simp; omega); (have hz : (s == 0) = false := by simp [c]); (have he : (s == a) = true := by simp [d]); have HV : Aside0 (impl_fewerAre.q l0 a s = (hold l0 (a - 1) (s - 1) && true)) := ⟨by unfold impl_fewerAre.q; simp only [hz, he, Bool.true_or, Bool.false_or]⟩; clear hz he; have H1 := Az (fun wx (hx : Kd.C (Kd.int .i64) wx A0 l0.length l0) => impl_holds.calls A0 c0 l0 ((a : Int) - 1) ((s : Int) - 1) (hold l0 (a - 1) (s - 1)) wx hx hc0 (by rw [show ((a : Int) - 1 : Int) = ((a - 1 : Nat) : Int) by omega, show ((s : Int) - 1 : Int) = ((s - 1 : Nat) : Int) by omega]; exact ihold h21 _ _ (by omega) (by omega))); have E1 : Aside0 (wrap64 ((a : Int) - 1) = (a : Int) - 1) := ⟨by unfold wrap64; omega⟩; have E2 : Aside0 (wrap64 ((s : Int) - 1) = (s : Int) - 1) := ⟨by unfold wrap64; omega⟩; obtain ⟨X, hX⟩ : ∃ X, hold l0 (a - 1) (s - 1) = X := ⟨_, rfl⟩; rw [hX] at H1 HV; clear hX; cases X
      all_goals
        have HR0 := Aside0.mk hr0; clear hr0 hc0 hs ha h21 c d; have e1 := E1.out; have e2 := E2.out; go_enter Try.func77, Try.ntmps77; go_wp2_with (first | (go_at_call 59; (with_reducible refine (H1.out w HR0.out).mono ?_); rintro e w' ⟨rfl, ⟨nd, rfl⟩⟩) | (go_at_call 59; (with_reducible refine (H1.out (w.drewN _) (Kd.C_drewN HR0.out _)).mono ?_); rintro e w' ⟨rfl, ⟨nd, rfl⟩⟩)); go_ret; exact ⟨bool_re (by first | (rw [HV.out]; done) | (rw [HV.out]; first | rfl | (simp; done))), by repeat (first | exact Drawn0.refl _ | apply Drawn0.step)⟩
    · skip; (have cb : ((s : Int) == 0) = false := by simp; omega); (have cb2 : ((s : Int) == (a : Int)) = false := by simp; omega); (have hz : (s == 0) = false := by simp [c]); (have he : (s == a) = false := by simp [d]); have HV : Aside0 (impl_fewerAre.q l0 a s = (hold l0 (a - 1) (s - 1) && hold l0 (a - 1) s)) := ⟨by unfold impl_fewerAre.q; simp only [hz, he, Bool.true_or, Bool.false_or]⟩; clear hz he; have H1 := Az (fun wx (hx : Kd.C (Kd.int .i64) wx A0 l0.length l0) => impl_holds.calls A0 c0 l0 ((a : Int) - 1) ((s : Int) - 1) (hold l0 (a - 1) (s - 1)) wx hx hc0 (by rw [show ((a : Int) - 1 : Int) = ((a - 1 : Nat) : Int) by omega, show ((s : Int) - 1 : Int) = ((s - 1 : Nat) : Int) by omega]; exact ihold h21 _ _ (by omega) (by omega))); have H2 := Az (fun wx (hx : Kd.C (Kd.int .i64) wx A0 l0.length l0) => impl_holds.calls A0 c0 l0 ((a : Int) - 1) ((s : Int)) (hold l0 (a - 1) (s)) wx hx hc0 (by rw [show ((a : Int) - 1 : Int) = ((a - 1 : Nat) : Int) by omega, show ((s : Int) : Int) = ((s : Nat) : Int) by omega]; exact ihold h21 _ _ (by omega) (by omega))); have E1 : Aside0 (wrap64 ((a : Int) - 1) = (a : Int) - 1) := ⟨by unfold wrap64; omega⟩; have E2 : Aside0 (wrap64 ((s : Int) - 1) = (s : Int) - 1) := ⟨by unfold wrap64; omega⟩; obtain ⟨X, hX⟩ : ∃ X, hold l0 (a - 1) (s - 1) = X := ⟨_, rfl⟩; rw [hX] at H1 HV; clear hX; cases X
      all_goals
        have HR0 := Aside0.mk hr0; clear hr0 hc0 hs ha h21 c d; have e1 := E1.out; have e2 := E2.out; go_enter Try.func77, Try.ntmps77; go_wp2_with (first | (go_at_call 59; (with_reducible refine (H1.out w HR0.out).mono ?_); rintro e w' ⟨rfl, ⟨nd, rfl⟩⟩) | (go_at_call 59; (with_reducible refine (H1.out (w.drewN _) (Kd.C_drewN HR0.out _)).mono ?_); rintro e w' ⟨rfl, ⟨nd, rfl⟩⟩) | (go_at_call 59; (with_reducible refine (H2.out w HR0.out).mono ?_); rintro e w' ⟨rfl, ⟨nd, rfl⟩⟩) | (go_at_call 59; (with_reducible refine (H2.out (w.drewN _) (Kd.C_drewN HR0.out _)).mono ?_); rintro e w' ⟨rfl, ⟨nd, rfl⟩⟩)); go_ret; exact ⟨bool_re (by first | (rw [HV.out]; done) | (rw [HV.out]; first | rfl | (simp; done))), by repeat (first | exact Drawn0.refl _ | apply Drawn0.step)⟩
set_option maxHeartbeats 8000000 in
set_option maxRecDepth 100000 in
theorem impl_fewerAre.calls (A0 : Option Addr) (c0 : Nat) (l0 : List Int) (w : World) (h21 : l0.length = 21) (hr0 : Kd.C (Kd.int .i64) w A0 l0.length l0) (hc0 : l0.length ≤ c0) :
    Calls Try.prog 55 #[.slice A0 l0.length c0] w fun e w' => e = .returned (.bool (fAre l0)) ∧ Below w.heap.size w w' := by
  have hC := Kd.C_alloc hr0 (.cells #[.slice A0 l0.length c0] 29)
  have HT := Az (impl_stays.calls 77 #[.pointer (some ⟨w.heap.size, 0, none⟩)] (impl_fewerAre.q l0) A0 c0 l0 (w.alloc (.cells #[.slice A0 l0.length c0] 29)) h21 hC hc0 (fun args wx => enters_ Try.func77 (by kernel_rfl) rfl args wx)
    (fun n a s hs ha => impl_fewerAre.inner w.heap.size A0 c0 l0 h21 a s ((w.alloc (.cells #[.slice A0 l0.length c0] 29)).drewN n) (by rw [World.cell?_drewN, World.cell?_alloc_at _ _ _ _ rfl]; rfl) (Kd.C_drewN hC n) hc0 hs ha))
  clear hr0 hc0 h21 hC; (have hmf : ∀ (fn : Fn) (first cap : Array Value) (w : World), (Instr.makeFunc fn first cap).run Try.prog w = .ok (.func fn first cap) w := fun _ _ _ _ => rfl); go_enter Try.func55, Try.ntmps55; go_wp2_with (first | (go_at_call 75; (with_reducible refine HT.out.mono ?_); rintro e w' ⟨rfl, ⟨nd, rfl⟩⟩)); go_ret; exact ⟨rfl, by repeat (first | exact below_alloc (Below.refl _ _) _ | apply pw_below_drewN)⟩

/-! ### impl_moreDo: function 56 -/
def impl_moreDo.q (l0 : List Int) : Nat → Nat → Bool := fun a s => s == a || hold l0 a (s + 1)
set_option maxHeartbeats 8000000 in
set_option maxRecDepth 100000 in
theorem impl_moreDo.inner (g : Nat) (A0 : Option Addr) (c0 : Nat) (l0 : List Int) (h21 : l0.length = 21) (a s : Nat) (w : World) (hg : w.cell? ⟨g, 0, none⟩ = some (.slice A0 l0.length c0)) (hr0 : Kd.C (Kd.int .i64) w A0 l0.length l0) (hc0 : l0.length ≤ c0) (hs : s ≤ a) (ha : a ≤ 5) :
    Calls Try.prog 78 (#[.int .i64 a, .int .i64 s] ++ #[.pointer (some ⟨g, 0, none⟩)]) w fun e w' => e = .returned (.bool (impl_moreDo.q l0 a s)) ∧ Drawn0 w w' := by
  by_cases c : s = a
  · have HV : Aside0 (impl_moreDo.q l0 a s = true) := ⟨by simp [impl_moreDo.q, c]⟩; (have cb : ((s : Int) == (a : Int)) = true := by simp [c]); have HR0 := Aside0.mk hr0; clear hr0 hc0 hs ha h21 c; go_enter Try.func78, Try.ntmps78; go_wp2; go_ret; exact ⟨bool_re (by first | (rw [HV.out]; done) | (rw [HV.out]; first | rfl | (simp; done))), by repeat (first | exact Drawn0.refl _ | apply Drawn0.step)⟩
  · have HV : Aside0 (impl_moreDo.q l0 a s = hold l0 a (s + 1)) := ⟨by simp [impl_moreDo.q, c]⟩; (have cb : ((s : Int) == (a : Int)) = false := by simp; omega); have H1 := Az (fun wx (hx : Kd.C (Kd.int .i64) wx A0 l0.length l0) => impl_holds.calls A0 c0 l0 ((a : Int)) ((s : Int) + 1) (hold l0 (a) (s + 1)) wx hx hc0 (by rw [show ((a : Int) : Int) = ((a : Nat) : Int) by omega, show ((s : Int) + 1 : Int) = ((s + 1 : Nat) : Int) by omega]; exact ihold h21 _ _ (by omega) (by omega))); have E1 : Aside0 (wrap64 ((s : Int) + 1) = (s : Int) + 1) := ⟨by unfold wrap64; omega⟩; have HR0 := Aside0.mk hr0; clear hr0 hc0 hs ha h21 c; have e1 := E1.out; go_enter Try.func78, Try.ntmps78; go_wp2_with (first | (go_at_call 59; (with_reducible refine (H1.out w HR0.out).mono ?_); rintro e w' ⟨rfl, ⟨nd, rfl⟩⟩) | (go_at_call 59; (with_reducible refine (H1.out (w.drewN _) (Kd.C_drewN HR0.out _)).mono ?_); rintro e w' ⟨rfl, ⟨nd, rfl⟩⟩)); go_ret; exact ⟨bool_re (by first | (rw [HV.out]; done) | (rw [HV.out]; first | rfl | (simp; done))), by repeat (first | exact Drawn0.refl _ | apply Drawn0.step)⟩
set_option maxHeartbeats 8000000 in
set_option maxRecDepth 100000 in
theorem impl_moreDo.calls (A0 : Option Addr) (c0 : Nat) (l0 : List Int) (w : World) (h21 : l0.length = 21) (hr0 : Kd.C (Kd.int .i64) w A0 l0.length l0) (hc0 : l0.length ≤ c0) :
    Calls Try.prog 56 #[.slice A0 l0.length c0] w fun e w' => e = .returned (.bool (mDo l0)) ∧ Below w.heap.size w w' := by
  have hC := Kd.C_alloc hr0 (.cells #[.slice A0 l0.length c0] 29)
  have HT := Az (impl_stays.calls 78 #[.pointer (some ⟨w.heap.size, 0, none⟩)] (impl_moreDo.q l0) A0 c0 l0 (w.alloc (.cells #[.slice A0 l0.length c0] 29)) h21 hC hc0 (fun args wx => enters_ Try.func78 (by kernel_rfl) rfl args wx)
    (fun n a s hs ha => impl_moreDo.inner w.heap.size A0 c0 l0 h21 a s ((w.alloc (.cells #[.slice A0 l0.length c0] 29)).drewN n) (by rw [World.cell?_drewN, World.cell?_alloc_at _ _ _ _ rfl]; rfl) (Kd.C_drewN hC n) hc0 hs ha))
  clear hr0 hc0 h21 hC; (have hmf : ∀ (fn : Fn) (first cap : Array Value) (w : World), (Instr.makeFunc fn first cap).run Try.prog w = .ok (.func fn first cap) w := fun _ _ _ _ => rfl); go_enter Try.func56, Try.ntmps56; go_wp2_with (first | (go_at_call 75; (with_reducible refine HT.out.mono ?_); rintro e w' ⟨rfl, ⟨nd, rfl⟩⟩)); go_ret; exact ⟨rfl, by repeat (first | exact below_alloc (Below.refl _ _) _ | apply pw_below_drewN)⟩

/-! ### impl_fewerDo: function 57 -/
def impl_fewerDo.q (l0 : List Int) : Nat → Nat → Bool := fun a s => s == 0 || hold l0 a (s - 1)
set_option maxHeartbeats 8000000 in
set_option maxRecDepth 100000 in
theorem impl_fewerDo.inner (g : Nat) (A0 : Option Addr) (c0 : Nat) (l0 : List Int) (h21 : l0.length = 21) (a s : Nat) (w : World) (hg : w.cell? ⟨g, 0, none⟩ = some (.slice A0 l0.length c0)) (hr0 : Kd.C (Kd.int .i64) w A0 l0.length l0) (hc0 : l0.length ≤ c0) (hs : s ≤ a) (ha : a ≤ 5) :
    Calls Try.prog 79 (#[.int .i64 a, .int .i64 s] ++ #[.pointer (some ⟨g, 0, none⟩)]) w fun e w' => e = .returned (.bool (impl_fewerDo.q l0 a s)) ∧ Drawn0 w w' := by
  by_cases c : s = 0
  · have HV : Aside0 (impl_fewerDo.q l0 a s = true) := ⟨by simp [impl_fewerDo.q, c]⟩; (have cb : ((s : Int) == 0) = true := by simp [c]); have HR0 := Aside0.mk hr0; clear hr0 hc0 hs ha h21 c; go_enter Try.func79, Try.ntmps79; go_wp2; go_ret; exact ⟨bool_re (by first | (rw [HV.out]; done) | (rw [HV.out]; first | rfl | (simp; done))), by repeat (first | exact Drawn0.refl _ | apply Drawn0.step)⟩
  · have HV : Aside0 (impl_fewerDo.q l0 a s = hold l0 a (s - 1)) := ⟨by simp [impl_fewerDo.q, c]⟩; (have cb : ((s : Int) == 0) = false := by simp; omega); have H1 := Az (fun wx (hx : Kd.C (Kd.int .i64) wx A0 l0.length l0) => impl_holds.calls A0 c0 l0 ((a : Int)) ((s : Int) - 1) (hold l0 (a) (s - 1)) wx hx hc0 (by rw [show ((a : Int) : Int) = ((a : Nat) : Int) by omega, show ((s : Int) - 1 : Int) = ((s - 1 : Nat) : Int) by omega]; exact ihold h21 _ _ (by omega) (by omega))); have E1 : Aside0 (wrap64 ((s : Int) - 1) = (s : Int) - 1) := ⟨by unfold wrap64; omega⟩; have HR0 := Aside0.mk hr0; clear hr0 hc0 hs ha h21 c; have e1 := E1.out; go_enter Try.func79, Try.ntmps79; go_wp2_with (first | (go_at_call 59; (with_reducible refine (H1.out w HR0.out).mono ?_); rintro e w' ⟨rfl, ⟨nd, rfl⟩⟩) | (go_at_call 59; (with_reducible refine (H1.out (w.drewN _) (Kd.C_drewN HR0.out _)).mono ?_); rintro e w' ⟨rfl, ⟨nd, rfl⟩⟩)); go_ret; exact ⟨bool_re (by first | (rw [HV.out]; done) | (rw [HV.out]; first | rfl | (simp; done))), by repeat (first | exact Drawn0.refl _ | apply Drawn0.step)⟩
set_option maxHeartbeats 8000000 in
set_option maxRecDepth 100000 in
theorem impl_fewerDo.calls (A0 : Option Addr) (c0 : Nat) (l0 : List Int) (w : World) (h21 : l0.length = 21) (hr0 : Kd.C (Kd.int .i64) w A0 l0.length l0) (hc0 : l0.length ≤ c0) :
    Calls Try.prog 57 #[.slice A0 l0.length c0] w fun e w' => e = .returned (.bool (fDo l0)) ∧ Below w.heap.size w w' := by
  have hC := Kd.C_alloc hr0 (.cells #[.slice A0 l0.length c0] 29)
  have HT := Az (impl_stays.calls 79 #[.pointer (some ⟨w.heap.size, 0, none⟩)] (impl_fewerDo.q l0) A0 c0 l0 (w.alloc (.cells #[.slice A0 l0.length c0] 29)) h21 hC hc0 (fun args wx => enters_ Try.func79 (by kernel_rfl) rfl args wx)
    (fun n a s hs ha => impl_fewerDo.inner w.heap.size A0 c0 l0 h21 a s ((w.alloc (.cells #[.slice A0 l0.length c0] 29)).drewN n) (by rw [World.cell?_drewN, World.cell?_alloc_at _ _ _ _ rfl]; rfl) (Kd.C_drewN hC n) hc0 hs ha))
  clear hr0 hc0 h21 hC; (have hmf : ∀ (fn : Fn) (first cap : Array Value) (w : World), (Instr.makeFunc fn first cap).run Try.prog w = .ok (.func fn first cap) w := fun _ _ _ _ => rfl); go_enter Try.func57, Try.ntmps57; go_wp2_with (first | (go_at_call 75; (with_reducible refine HT.out.mono ?_); rintro e w' ⟨rfl, ⟨nd, rfl⟩⟩)); go_ret; exact ⟨rfl, by repeat (first | exact below_alloc (Below.refl _ _) _ | apply pw_below_drewN)⟩

/-! ### impl_part_marks: function 37 -/
def mch (w : Int) : UInt8 := if w = 1 then 43 else if w = -1 then 45 else 61
def mtx (l : List Int) : ByteArray := ⟨(l.map mch).toArray⟩
theorem mtx_append (a b : List Int) : mtx a ++ mtx b = mtx (a ++ b) := by
  apply ByteArray.ext; rw [ByteArray.data_append]; simp [mtx]
theorem e_app (b : ByteArray) : (⟨#[]⟩ : ByteArray) ++ b = b := by apply ByteArray.ext; rw [ByteArray.data_append]; simp
theorem mtx_size (l : List Int) : (mtx l).size = l.length := by simp [mtx, ByteArray.size]
def pre1 (l : List Int) (i : Nat) : ByteArray := if i = 0 then ⟨#[]⟩ else mtx l
def pre2 (l m : List Int) (i : Nat) : ByteArray := if i = 0 then ⟨#[]⟩ else if i = 1 then mtx l else mtx (l ++ m)
theorem str_eq {a b : ByteArray} (h : a = b) : Value.string a = Value.string b := by rw [h]
theorem str_ret {a b : ByteArray} (h : a = b) : Ending.returned (.string a) = .returned (.string b) := by rw [h]
theorem Tree.below {g : Nat} {w w' : World} {p : PT} {b : Nat} (h : Tree g w p b) (hb : Below w.heap.size w w') : Tree g w' p b :=
  h.move (fun k hk _ => hb.block k (Nat.lt_of_le_of_lt hk h.lt))
theorem neg_range {w : Int} (h : w = -1 ∨ w = 0 ∨ w = 1) : -w = -1 ∨ -w = 0 ∨ -w = 1 := by omega
theorem drawn_cell {w wx : World} {a : Addr} {v : Value} (h : Drawn0 w wx) (hc : w.cell? a = some v) : wx.cell? a = some v := by
  obtain ⟨n, rfl⟩ := h; rw [World.cell?_drewN]; exact hc
theorem below_cell {w wx : World} {a : Addr} {v : Value} (h : Below w.heap.size w wx) (hc : w.cell? a = some v) : wx.cell? a = some v := (h.cell (World.block_lt_of_cell? w _ hc)).trans hc
theorem turn_eq {w : Int} (h : w = -1 ∨ w = 0 ∨ w = 1) (a b : Bool) : impl_turnBy.f w a b = some (w * sig a b) := by
  rcases h with rfl | rfl | rfl <;> cases a <;> cases b <;> decide +kernel
theorem way_sig {w f : Int} (h : w = -1 ∨ w = 0 ∨ w = 1) (hf : f = -1 ∨ f = 0 ∨ f = 1) : w * f = -1 ∨ w * f = 0 ∨ w * f = 1 := by
  rcases h with rfl | rfl | rfl <;> rcases hf with rfl | rfl | rfl <;> decide
set_option maxHeartbeats 8000000 in
set_option maxRecDepth 100000 in
theorem impl_part_marks.set (g : Nat) {p : PT} (hp : SetT p) : lvs p ≤ 1000000 → ∀ (b : Nat) (way : Int) (w : World), way = -1 ∨ way = 0 ∨ way = 1 → Tree g w p b →
    Calls Try.prog 37 #[.pointer (some ⟨b, 0, none⟩), .int .i64 way] w fun e w' => e = .returned (.string (mtx (sgn way p))) ∧ Drawn0 w w' := by
  induction hp with
  | leaf ch i h1 h2 =>
    intro hl b way w hw ht; have hc3 : w.cell? ⟨b, 3, none⟩ = some (.slice none 0 0) := (blk_cell ht.2 3).trans rfl; clear ht h1 h2; rcases hw with rfl | rfl | rfl
    all_goals
      go_enter Try.func37, Try.ntmps37; go_wp2; go_ret; exact ⟨str_ret (by show _ = mtx [_]; decide +kernel), by repeat (first | exact Drawn0.refl _ | apply Drawn0.step)⟩
  | @one p hp ih =>
    intro hl b way w hw ht; (have hs1 : (mtx (sgn (-way) p)).size ≤ 1000000 := by rw [mtx_size, sgn_len _ hp]; exact hl); obtain ⟨k1, q, b1, k2, k3, k4, k5, k6, k7⟩ := ht; have hc0 : w.cell? ⟨b, 0, none⟩ = some (.int .u8 33) := (blk_cell k5 0).trans rfl; have hc1 : w.cell? ⟨b, 1, none⟩ = some (.slice none 0 0) := (blk_cell k5 1).trans rfl; have hc3 : w.cell? ⟨b, 3, none⟩ = some (.slice (some ⟨q, 0, none⟩) 1 1) := (blk_cell k5 3).trans rfl; have hq0 : w.cell? ⟨q, 0, none⟩ = some (.pointer (some ⟨b1, 0, none⟩)) := (blk_cell k6 0).trans rfl; have HA := Az (ih hl b1 (-way) w (neg_range hw) k7); have E1 : Aside0 (wrap64 (-way) = -way) := ⟨by unfold wrap64; omega⟩; have E2 : Aside0 (IntKind.i64.wrap (-way) = -way) := ⟨by rw [IntKind.wrap_i64]; omega⟩; (have hnil := fun (w : World) (a : Option Addr) (l c : Nat) => Go.run_neq_slice_nil (P := Try.prog) w 29 3 a l c Try.underlying29); (have f1 : ¬ 9223372036854775807 < (mtx (sgn (-way) p)).size := by omega); have f1b : decide (9223372036854775807 < (mtx (sgn (-way) p)).size) = false := decide_eq_false f1; clear ih k1 k2 k3 k4 k5 k6 k7 hw hl hs1; have e1 := E1.out; have e2 := E2.out; go_enter Try.func37, Try.ntmps37; go_wp2; go_loopg [7, 86] 2 (fun kq v7 v86 w' => ∃ i : Nat, v86 = .int .i64 i ∧ v7 = .string (pre1 (sgn (-way) p) i) ∧ Aside0 (kq + i = 2 ∧ i ≤ 1) ∧ Aside0 (i = 0 → w' = w) ∧ Aside0 (Drawn0 w w')); case atStart => exact ⟨0, rfl, rfl, ⟨by omega⟩, ⟨fun _ => rfl⟩, ⟨Drawn0.refl _⟩⟩
    case round =>
      obtain ⟨i, rfl, rfl, HX, HW, HP⟩ := hrel
      cases gk with
      | zero => exact absurd HX.out (by omega)
      | succ k1 =>
        by_cases hi : i = 0
        · subst hi; obtain rfl := HW.out rfl; rw [show pre1 (sgn (-way) p) 0 = ⟨#[]⟩ from rfl]; have HK := HX; clear HX HW HP; go_wp2_with (go_at_call 37; (with_reducible refine HA.out.mono ?_); rintro e w2 ⟨rfl, ⟨nd, rfl⟩⟩); go_roundg k1; (case measure => omega); case rel => exact ⟨1, (by first | rfl | go_num), str_eq (by rw [e_app]; rfl), ⟨by have := HK.out; omega⟩, ⟨fun h => absurd h (by decide)⟩, ⟨by repeat (first | exact Drawn0.refl _ | apply Drawn0.step)⟩⟩
        · (obtain rfl : i = 1 := by have := HX.out; omega); clear hi; go_wp2; go_ret; exact ⟨str_ret rfl, HP.out⟩
  | @two ch p q hch hp hq ih1 ih2 =>
    intro hl b way w hw ht; (have hs1 : (mtx (sgn way p)).size ≤ 1000000 := by rw [mtx_size, sgn_len _ hp]; simp only [lvs] at hl; omega); (have hs2 : (mtx (sgn way p)).size + (mtx (sgn way q)).size ≤ 1000000 := by rw [mtx_size, mtx_size, sgn_len _ hp, sgn_len _ hq]; exact hl); obtain ⟨k1, z, b1, b2, k2, k3, k4, k4', k5, k6, k7, k8⟩ := ht; have hc0 : w.cell? ⟨b, 0, none⟩ = some (.int .u8 ch) := (blk_cell k5 0).trans rfl; have hc1 : w.cell? ⟨b, 1, none⟩ = some (.slice none 0 0) := (blk_cell k5 1).trans rfl; have hc3 : w.cell? ⟨b, 3, none⟩ = some (.slice (some ⟨z, 0, none⟩) 2 2) := (blk_cell k5 3).trans rfl; have hq0 : w.cell? ⟨z, 0, none⟩ = some (.pointer (some ⟨b1, 0, none⟩)) := (blk_cell k6 0).trans rfl; have HQ0 := Az (fun wx (hx : Drawn0 w wx) => drawn_cell hx (show w.cell? ⟨z, 1, none⟩ = some (.pointer (some ⟨b2, 0, none⟩)) from (blk_cell k6 1).trans rfl)); (have d1 : (ch == 126) = false := by rcases hch with rfl | rfl <;> rfl); (have d2 : (ch == 33) = false := by rcases hch with rfl | rfl <;> rfl); have HA := Az (ih1 (by simp only [lvs] at hl; omega) b1 way w hw k7); have HQ := Az (fun wx (hx : Drawn0 w wx) => ih2 (by simp only [lvs] at hl; omega) b2 way wx hw (by obtain ⟨n, rfl⟩ := hx; exact k8.same rfl)); have HV : Aside0 (sgn way (.two ch p q) = sgn way p ++ sgn way q) := ⟨rfl⟩; (have hnil := fun (w : World) (a : Option Addr) (l c : Nat) => Go.run_neq_slice_nil (P := Try.prog) w 29 3 a l c Try.underlying29); (have f1 : ¬ 9223372036854775807 < (mtx (sgn way p)).size := by omega); have f1b : decide (9223372036854775807 < (mtx (sgn way p)).size) = false := decide_eq_false f1; (have f2 : ¬ 9223372036854775807 < (mtx (sgn way p)).size + (mtx (sgn way q)).size := by omega); have f2b : decide (9223372036854775807 < (mtx (sgn way p)).size + (mtx (sgn way q)).size) = false := decide_eq_false f2; clear ih1 ih2 k1 k2 k3 k4 k4' k5 k6 k7 k8 hl hs1 hs2 hw hch; go_enter Try.func37, Try.ntmps37; go_wp2; go_loopg [7, 86] 3 (fun kq v7 v86 w' => ∃ i : Nat, v86 = .int .i64 i ∧ v7 = .string (pre2 (sgn way p) (sgn way q) i) ∧ Aside0 (kq + i = 3 ∧ i ≤ 2) ∧ Aside0 (i = 0 → w' = w) ∧ Aside0 (Drawn0 w w')); case atStart => exact ⟨0, rfl, rfl, ⟨by omega⟩, ⟨fun _ => rfl⟩, ⟨Drawn0.refl _⟩⟩
    case round =>
      obtain ⟨i, rfl, rfl, HX, HW, HP⟩ := hrel
      cases gk with
      | zero => exact absurd HX.out (by omega)
      | succ k1 =>
        by_cases hi : i = 0
        · subst hi; obtain rfl := HW.out rfl; rw [show pre2 (sgn way p) (sgn way q) 0 = ⟨#[]⟩ from rfl]; have HK := HX; clear HX HW HP; go_wp2_with (go_at_call 37; (with_reducible refine HA.out.mono ?_); rintro e w2 ⟨rfl, ⟨nd, rfl⟩⟩); go_roundg k1; (case measure => omega); case rel => exact ⟨1, (by first | rfl | go_num), str_eq (by rw [e_app]; rfl), ⟨by have := HK.out; omega⟩, ⟨fun h => absurd h (by decide)⟩, ⟨by repeat (first | exact Drawn0.refl _ | apply Drawn0.step)⟩⟩
        · by_cases hj : i = 1
          · subst hj; rw [show pre2 (sgn way p) (sgn way q) 1 = mtx (sgn way p) from rfl]; have HK := HX; have hq1 := HQ0.out _ HP.out; have HM := Az (HQ.out _ HP.out); clear HX HW hi; go_wp2_with (go_at_call 37; (with_reducible refine HM.out.mono ?_); rintro e w2 ⟨rfl, ⟨nd, rfl⟩⟩); go_roundg k1; (case measure => omega); case rel => exact ⟨2, (by first | rfl | go_num), str_eq (by rw [mtx_append]; rfl), ⟨by have := HK.out; omega⟩, ⟨fun h => absurd h (by decide)⟩, ⟨by obtain ⟨n, hn⟩ := HP.out; subst hn; repeat (first | exact Drawn0.refl _ | apply Drawn0.step)⟩⟩
          · (obtain rfl : i = 2 := by have := HX.out; omega); clear hi hj; go_wp2; go_ret; exact ⟨str_ret rfl, HP.out⟩
set_option maxHeartbeats 8000000 in
set_option maxRecDepth 100000 in
theorem impl_part_marks.calls (g : Nat) {p : PT} (hp : SentT p) : lvs p ≤ 1000000 → ∀ (b : Nat) (way : Int) (w : World), way = -1 ∨ way = 0 ∨ way = 1 → Tree g w p b →
    Calls Try.prog 37 #[.pointer (some ⟨b, 0, none⟩), .int .i64 way] w fun e w' => e = .returned (.string (mtx (sgns way p))) ∧ Below w.heap.size w w' := by
  induction hp with
  | @one p hp ih =>
    intro hl b way w hw ht; (have hs1 : (mtx (sgns (-way) p)).size ≤ 1000000 := by rw [mtx_size, sgns_len _ hp]; exact hl); obtain ⟨k1, q, b1, k2, k3, k4, k5, k6, k7⟩ := ht; have hc0 : w.cell? ⟨b, 0, none⟩ = some (.int .u8 126) := (blk_cell k5 0).trans rfl; have hc1 : w.cell? ⟨b, 1, none⟩ = some (.slice none 0 0) := (blk_cell k5 1).trans rfl; have hc3 : w.cell? ⟨b, 3, none⟩ = some (.slice (some ⟨q, 0, none⟩) 1 1) := (blk_cell k5 3).trans rfl; have hq0 : w.cell? ⟨q, 0, none⟩ = some (.pointer (some ⟨b1, 0, none⟩)) := (blk_cell k6 0).trans rfl; have HA := Az (ih hl b1 (-way) w (neg_range hw) k7); have E1 : Aside0 (wrap64 (-way) = -way) := ⟨by unfold wrap64; omega⟩; have E2 : Aside0 (IntKind.i64.wrap (-way) = -way) := ⟨by rw [IntKind.wrap_i64]; omega⟩; (have hnil := fun (w : World) (a : Option Addr) (l c : Nat) => Go.run_neq_slice_nil (P := Try.prog) w 29 3 a l c Try.underlying29); (have f1 : ¬ 9223372036854775807 < (mtx (sgns (-way) p)).size := by omega); have f1b : decide (9223372036854775807 < (mtx (sgns (-way) p)).size) = false := decide_eq_false f1; clear ih k1 k2 k3 k4 k5 k6 k7 hw hl hs1; have e1 := E1.out; have e2 := E2.out; go_enter Try.func37, Try.ntmps37; go_wp2; go_loopg [7, 86] 2 (fun kq v7 v86 w' => ∃ i : Nat, v86 = .int .i64 i ∧ v7 = .string (pre1 (sgns (-way) p) i) ∧ Aside0 (kq + i = 2 ∧ i ≤ 1) ∧ Aside0 (i = 0 → w' = w) ∧ Aside0 (Below w.heap.size w w')); case atStart => exact ⟨0, rfl, rfl, ⟨by omega⟩, ⟨fun _ => rfl⟩, ⟨Below.refl _ _⟩⟩
    case round =>
      obtain ⟨i, rfl, rfl, HX, HW, HP⟩ := hrel
      cases gk with
      | zero => exact absurd HX.out (by omega)
      | succ k1 =>
        by_cases hi : i = 0
        · subst hi; obtain rfl := HW.out rfl; rw [show pre1 (sgns (-way) p) 0 = ⟨#[]⟩ from rfl]; have HK := HX; clear HX HW HP; go_wp2_with (go_at_call 37; (with_reducible refine HA.out.mono ?_); rintro e w2 ⟨rfl, hb2⟩; have HB2 := Aside0.mk hb2; clear hb2); go_roundg k1; (case measure => omega); case rel => exact ⟨1, (by first | rfl | go_num), str_eq (by rw [e_app]; rfl), ⟨by have := HK.out; omega⟩, ⟨fun h => absurd h (by decide)⟩, ⟨HB2.out⟩⟩
        · (obtain rfl : i = 1 := by have := HX.out; omega); clear hi; go_wp2; go_ret; exact ⟨str_ret rfl, HP.out⟩
  | @two ch p q hch hp hq ih1 ih2 =>
    intro hl b way w hw ht; (have hs1 : (mtx (sgns way p)).size ≤ 1000000 := by rw [mtx_size, sgns_len _ hp]; simp only [lvs] at hl; omega); (have hs2 : (mtx (sgns way p)).size + (mtx (sgns way q)).size ≤ 1000000 := by rw [mtx_size, mtx_size, sgns_len _ hp, sgns_len _ hq]; exact hl); obtain ⟨k1, z, b1, b2, k2, k3, k4, k4', k5, k6, k7, k8⟩ := ht; have hc0 : w.cell? ⟨b, 0, none⟩ = some (.int .u8 ch) := (blk_cell k5 0).trans rfl; have hc1 : w.cell? ⟨b, 1, none⟩ = some (.slice none 0 0) := (blk_cell k5 1).trans rfl; have hc3 : w.cell? ⟨b, 3, none⟩ = some (.slice (some ⟨z, 0, none⟩) 2 2) := (blk_cell k5 3).trans rfl; have hq0 : w.cell? ⟨z, 0, none⟩ = some (.pointer (some ⟨b1, 0, none⟩)) := (blk_cell k6 0).trans rfl; have HQ0 := Az (fun wx (hx : Below w.heap.size w wx) => below_cell hx (show w.cell? ⟨z, 1, none⟩ = some (.pointer (some ⟨b2, 0, none⟩)) from (blk_cell k6 1).trans rfl)); (have d1 : (ch == 126) = false := by rcases hch with rfl | rfl <;> rfl); (have d2 : (ch == 33) = false := by rcases hch with rfl | rfl <;> rfl); have HA := Az (ih1 (by simp only [lvs] at hl; omega) b1 way w hw k7); have HQ := Az (fun wx (hx : Below w.heap.size w wx) => ih2 (by simp only [lvs] at hl; omega) b2 way wx hw (k8.below hx)); have HV : Aside0 (sgns way (.two ch p q) = sgns way p ++ sgns way q) := ⟨rfl⟩; (have hnil := fun (w : World) (a : Option Addr) (l c : Nat) => Go.run_neq_slice_nil (P := Try.prog) w 29 3 a l c Try.underlying29); (have f1 : ¬ 9223372036854775807 < (mtx (sgns way p)).size := by omega); have f1b : decide (9223372036854775807 < (mtx (sgns way p)).size) = false := decide_eq_false f1; (have f2 : ¬ 9223372036854775807 < (mtx (sgns way p)).size + (mtx (sgns way q)).size := by omega); have f2b : decide (9223372036854775807 < (mtx (sgns way p)).size + (mtx (sgns way q)).size) = false := decide_eq_false f2; clear ih1 ih2 k1 k2 k3 k4 k4' k5 k6 k7 k8 hl hs1 hs2 hw hch; go_enter Try.func37, Try.ntmps37; go_wp2; go_loopg [7, 86] 3 (fun kq v7 v86 w' => ∃ i : Nat, v86 = .int .i64 i ∧ v7 = .string (pre2 (sgns way p) (sgns way q) i) ∧ Aside0 (kq + i = 3 ∧ i ≤ 2) ∧ Aside0 (i = 0 → w' = w) ∧ Aside0 (Below w.heap.size w w')); case atStart => exact ⟨0, rfl, rfl, ⟨by omega⟩, ⟨fun _ => rfl⟩, ⟨Below.refl _ _⟩⟩
    case round =>
      obtain ⟨i, rfl, rfl, HX, HW, HP⟩ := hrel
      cases gk with
      | zero => exact absurd HX.out (by omega)
      | succ k1 =>
        by_cases hi : i = 0
        · subst hi; obtain rfl := HW.out rfl; rw [show pre2 (sgns way p) (sgns way q) 0 = ⟨#[]⟩ from rfl]; have HK := HX; clear HX HW HP; go_wp2_with (go_at_call 37; (with_reducible refine HA.out.mono ?_); rintro e w2 ⟨rfl, hb2⟩; have HB2 := Aside0.mk hb2; clear hb2); go_roundg k1; (case measure => omega); case rel => exact ⟨1, (by first | rfl | go_num), str_eq (by rw [e_app]; rfl), ⟨by have := HK.out; omega⟩, ⟨fun h => absurd h (by decide)⟩, ⟨HB2.out⟩⟩
        · by_cases hj : i = 1
          · subst hj; rw [show pre2 (sgns way p) (sgns way q) 1 = mtx (sgns way p) from rfl]; have HK := HX; have hq1 := HQ0.out _ HP.out; have HM := Az (HQ.out _ HP.out); clear HX HW hi; go_wp2_with (go_at_call 37; (with_reducible refine HM.out.mono ?_); rintro e w2 ⟨rfl, hb2⟩; have HB2 := Aside0.mk hb2; clear hb2); go_roundg k1; (case measure => omega); case rel => exact ⟨2, (by first | rfl | go_num), str_eq (by rw [mtx_append]; rfl), ⟨by have := HK.out; omega⟩, ⟨fun h => absurd h (by decide)⟩, ⟨below_step HP.out HB2.out⟩⟩
          · (obtain rfl : i = 2 := by have := HX.out; omega); clear hi hj; go_wp2; go_ret; exact ⟨str_ret rfl, HP.out⟩
  | @tri t p q x hx hp hq =>
    intro hl b way w hw ht; obtain ⟨t21, _⟩ := nms_t _ hx; simp only at t21; (have hs2 : (mtx (sgn (way * sg1 t) p)).size + (mtx (sgn (way * sg2 t) q)).size ≤ 1000000 := by rw [mtx_size, mtx_size, sgn_len _ hp, sgn_len _ hq]; exact hl); obtain ⟨k1, z, b1, b2, v, k2, k3, k4, k4', k5, k6, kr, k7, k8⟩ := ht; obtain ⟨At, ct, rfl⟩ := Kd.R_slice kr; have krd := Kd.R_reads' kr; obtain ⟨ad, hA, _⟩ := Kd.at_int krd.2.2 0 (by omega) (by omega); subst hA; have hc1 : w.cell? ⟨b, 1, none⟩ = some (.slice (some ad) t.length ct) := (blk_cell k5 1).trans rfl; have hc3 : w.cell? ⟨b, 3, none⟩ = some (.slice (some ⟨z, 0, none⟩) 2 2) := (blk_cell k5 3).trans rfl; have hq0 : w.cell? ⟨z, 0, none⟩ = some (.pointer (some ⟨b1, 0, none⟩)) := (blk_cell k6 0).trans rfl; have hq1 : w.cell? ⟨z, 1, none⟩ = some (.pointer (some ⟨b2, 0, none⟩)) := (blk_cell k6 1).trans rfl; have HC1 := Aside0.mk hc1; have HC3 := Aside0.mk hc3; have HQ0 := Aside0.mk hq0; have HQ1 := Aside0.mk hq1; have HM1 := Az (fun wx (hx : Below w.heap.size w wx) => impl_moreAre.calls (some ad) ct t wx t21 (Kd.C_below krd.2.2 hx) krd.2.1); have HM2 := Az (fun wx (hx : Below w.heap.size w wx) => impl_fewerAre.calls (some ad) ct t wx t21 (Kd.C_below krd.2.2 hx) krd.2.1); have HM3 := Az (fun wx (hx : Below w.heap.size w wx) => impl_moreDo.calls (some ad) ct t wx t21 (Kd.C_below krd.2.2 hx) krd.2.1); have HM4 := Az (fun wx (hx : Below w.heap.size w wx) => impl_fewerDo.calls (some ad) ct t wx t21 (Kd.C_below krd.2.2 hx) krd.2.1); have HT1 := Az (fun wx => impl_turnBy.calls way (mAre t) (fAre t) _ wx (turn_eq hw _ _)); have HT2 := Az (fun wx => impl_turnBy.calls way (mDo t) (fDo t) _ wx (turn_eq hw _ _)); have HP1 : Aside0 (∀ wx, Below w.heap.size w wx → Calls Try.prog 37 #[.pointer (some ⟨b1, 0, none⟩), .int .i64 (way * sig (mAre t) (fAre t))] wx fun e w' => e = .returned (.string (mtx (sgn (way * sg1 t) p))) ∧ Drawn0 wx w') := ⟨fun wx hx => impl_part_marks.set g hp (by simp only [lvs] at hl; omega) b1 (way * sg1 t) wx (way_sig hw (sig_range _ _)) (k7.below hx)⟩; have HP2 : Aside0 (∀ wx, Below w.heap.size w wx → Calls Try.prog 37 #[.pointer (some ⟨b2, 0, none⟩), .int .i64 (way * sig (mDo t) (fDo t))] wx fun e w' => e = .returned (.string (mtx (sgn (way * sg2 t) q))) ∧ Drawn0 wx w') := ⟨fun wx hx => impl_part_marks.set g hq (by simp only [lvs] at hl; omega) b2 (way * sg2 t) wx (way_sig hw (sig_range _ _)) (k8.below hx)⟩; (have hnil := fun (w : World) (a : Option Addr) (l c : Nat) => Go.run_neq_slice_nil (P := Try.prog) w 29 3 a l c Try.underlying29); (have f2 : ¬ 9223372036854775807 < (mtx (sgn (way * sg1 t) p)).size + (mtx (sgn (way * sg2 t) q)).size := by omega); have f2b : decide (9223372036854775807 < (mtx (sgn (way * sg1 t) p)).size + (mtx (sgn (way * sg2 t) q)).size) = false := decide_eq_false f2; have HV : Aside0 (sgns way (.tri t p q) = sgn (way * sg1 t) p ++ sgn (way * sg2 t) q) := ⟨rfl⟩; clear k1 k2 k3 k4 k4' k5 k6 k7 k8 kr krd hs2 hl hw t21 hx hq0 hq1; go_enter Try.func37, Try.ntmps37; go_upto_region 4 with fail; go_region_held3 (fun w' => w'.cell? ⟨b, 1, none⟩ = some (.slice (some ad) t.length ct) ∧ Aside0 (Below w.heap.size w w')) (first | exact ⟨hc1, ⟨below_drew1 (Below.refl _ _)⟩⟩ | ((try go_split_ands); refine ⟨below_cell hb3 ?_, ⟨below_step ?_ hb3⟩⟩ <;> first | assumption | exact Aside0.out (by assumption)) | ((try go_split_ands); refine ⟨?_, ⟨pw_below_drewN (Aside0.out (by assumption)) _⟩⟩; rw [World.cell?_drewN]; assumption) | go_keep) (first | (go_at_call 54; (try go_split_ands); refine (HM1.out _ ?_).mono ?_; (exact Aside0.out (by assumption)); rintro e w' ⟨rfl, hb3⟩) | (go_at_call 55; (try go_split_ands); refine (HM2.out _ ?_).mono ?_; (exact Aside0.out (by assumption)); rintro e w' ⟨rfl, hb3⟩) | (go_at_call 53; refine (HT1.out _).mono ?_; rintro e w' ⟨rfl, ⟨nd, rfl⟩⟩)); go_upto_region 5 with fail; (have HBa : Aside0 (Below w.heap.size w (w'.drewN nd)) := by first | assumption | (go_split_ands; assumption)); generalize w'.drewN nd = Wa at HBa ⊢; clear hc1; have hc1 := below_cell HBa.out HC1.out; go_region_held3 (fun w' => w'.cell? ⟨b, 1, none⟩ = some (.slice (some ad) t.length ct) ∧ Aside0 (Below w.heap.size w w')) (first | exact ⟨hc1, ⟨below_drew1 HBa.out⟩⟩ | ((try go_split_ands); refine ⟨below_cell hb4 ?_, ⟨below_step ?_ hb4⟩⟩ <;> first | assumption | exact Aside0.out (by assumption)) | ((try go_split_ands); refine ⟨?_, ⟨pw_below_drewN (Aside0.out (by assumption)) _⟩⟩; rw [World.cell?_drewN]; assumption) | go_keep) (first | (go_at_call 56; (try go_split_ands); refine (HM3.out _ ?_).mono ?_; (exact Aside0.out (by assumption)); rintro e w' ⟨rfl, hb4⟩) | (go_at_call 57; (try go_split_ands); refine (HM4.out _ ?_).mono ?_; (exact Aside0.out (by assumption)); rintro e w' ⟨rfl, hb4⟩) | (go_at_call 53; refine (HT2.out _).mono ?_; rintro e w' ⟨rfl, ⟨nd2, rfl⟩⟩)); go_upto_region 6 with fail; (have HBb : Aside0 (Below w.heap.size w (w'.drewN nd2)) := by first | assumption | (go_split_ands; assumption)); generalize w'.drewN nd2 = Wb at HBb ⊢; clear hc1; have hc1 := below_cell HBb.out HC1.out; clear hc1 hc3; have hc3 := below_cell HBb.out HC3.out; have hq0 := below_cell HBb.out HQ0.out; have hq1 := below_cell HBb.out HQ1.out; (go_quiet ((go_at_call 37; first | (with_reducible exact Calls.quiet_of ((HP1.out _ (pw_below_drewN HBb.out _)).mono (fun _ _ h => ⟨h.1, h.2.out⟩))) | (with_reducible exact Calls.quiet_of ((HP2.out _ (pw_below_drewN HBb.out _)).mono (fun _ _ h => ⟨h.1, h.2.out⟩)))))); go_wp2; go_ret; exact ⟨str_ret (by rw [HV.out, ← mtx_append]), by (with_reducible repeat apply pw_below_drewN); exact HBb.out⟩

end Go.Proofs.Ytfjfdnododnepaa.PFnReplacedIn
