import Derived.Test.YtnnaiaiddjkjnaaPFnExactDeskDox0
import Derived.Test.YtnnaiaiddjkjnaaPFnExactDeskDox3
import Derived.Test.YtnnaiaiddjkjnaaPFnExactDeskDox4
import Derived.Test.YtnnaiaiddjkjnaaPFnExactDeskDox5
import Derived.Test.YtnnaiaiddjkjnaaPFnExactDeskDox8
import Derived.Test.YtnnaiaiddjkjnaaPFnExactDeskDox9
import Derived.Test.YtnnaiaiddjkjnaaPFnExactDeskDox13
import Derived.Outline
namespace Go.Proofs.Ytnnaiaiddjkjnaa.PFnExactDeskDo
open Go.RowKit Go.Proofs.YtnnaiaiddjkjnaaW.PrintWords Go.Proofs.YtnnaiaiddjkjnaaW.PrintLast Go.Proofs.YtnnaiaiddjkjnaaW.PrintMore
attribute [local go_sem] max2_int min2_int max_two min_two max_three min_three max_four min_four
set_option linter.unusedVariables false
set_option linter.unusedSimpArgs false
def Fo (ok : Nat → Prop) (P : World → Prop) (W : World) : Prop := ∀ V : World, (∀ k, ok k → V.heap[k]? = W.heap[k]?) → P V
theorem Fo.now {ok : Nat → Prop} {P : World → Prop} {W : World} (h : Fo ok P W) : P W := h W (fun _ _ => rfl)
theorem Fo.step {ok : Nat → Prop} {P : World → Prop} {W W' : World} (h : Fo ok P W) (hm : ∀ k, ok k → W'.heap[k]? = W.heap[k]?) : Fo ok P W' := fun V hV => h V (fun k hk => (hV k hk).trans (hm k hk))
theorem Fo.mono {ok ok' : Nat → Prop} {P : World → Prop} {W : World} (h : Fo ok P W) (hk : ∀ k, ok k → ok' k) : Fo ok' P W := fun V hV => h V (fun k hk' => hV k (hk k hk'))
theorem Fo.and {ok : Nat → Prop} {P Q : World → Prop} {W : World} (h : Fo ok P W) (g : Fo ok Q W) : Fo ok (fun V => P V ∧ Q V) W := fun V hV => ⟨h V hV, g V hV⟩
theorem Fo.imp {ok : Nat → Prop} {P Q : World → Prop} {W : World} (h : Fo ok P W) (g : ∀ V, P V → Q V) : Fo ok Q W := fun V hV => g V (h V hV)
theorem Fo.below {ok : Nat → Prop} {P : World → Prop} {W W' : World} {n : Nat} (h : Fo ok P W) (hk : ∀ k, ok k → k < n) (hn : n ≤ W.heap.size) (hb : Below W.heap.size W W') : Fo ok P W' := h.step (fun k hk' => hb.block k (Nat.lt_of_lt_of_le (hk k hk') hn))
theorem Fo_box {ok : Nat → Prop} {W : World} {g : Nat} {o : Obj} (h : W.heap[g]? = some o) (hk : ok g) : Fo ok (fun V => V.heap[g]? = some o) W := fun V hV => (hV g hk).trans h
theorem two_far {W : World} {g : Nat} (u v : Value) (k : Nat) (h : k ≠ g) : ((W.setCell ⟨g, 0, none⟩ u).setCell ⟨g, 1, none⟩ v).heap[k]? = W.heap[k]? := (Below.heap_setCell _ ⟨g, 1, none⟩ v k h).trans (Below.heap_setCell W ⟨g, 0, none⟩ u k h)
theorem two_size {W : World} {g : Nat} (u v : Value) : ((W.setCell ⟨g, 0, none⟩ u).setCell ⟨g, 1, none⟩ v).heap.size = W.heap.size := by simp
theorem two_box {W : World} {g : Nat} {x y u v : Value} {t : TypeId} (h : W.heap[g]? = some (.cells #[x, y] t (0, 0))) : ((W.setCell ⟨g, 0, none⟩ u).setCell ⟨g, 1, none⟩ v).heap[g]? = some (.cells #[u, v] t (0, 0)) := blk_put (cs := #[u, y]) (blk_put (cs := #[x, y]) h 0 u rfl) 1 v rfl
def Dk (b lo hi : Nat) (v0 v1 : Value) (N : List S25) (P : List (List S25)) (W : World) : Prop :=
  Kd.R k25 25 W b (fun k => lo ≤ k ∧ k < hi) v0 N ∧ Kd.S (Kd.slice 25 k25) 38 W b (fun k => (lo ≤ k ∧ k < hi) ∧ some k ≠ v0.ownBlock) v1 P
def Dr (A0 : Option Addr) (c0 : Nat) (A1 : Option Addr) (c1 n0 n1 : Nat) (N : List S25) (P : List (List S25)) (W : World) : Prop :=
  n0 = N.length ∧ n0 ≤ c0 ∧ Kd.C k25 W A0 N.length N ∧ n1 = P.length ∧ n1 ≤ c1 ∧ Kd.C (Kd.slice 25 k25) W A1 P.length P
theorem Dr.below {A0 : Option Addr} {c0 : Nat} {A1 : Option Addr} {c1 n0 n1 : Nat} {N : List S25} {P : List (List S25)} {W W' : World} (h : Dr A0 c0 A1 c1 n0 n1 N P W) (hb : Below W.heap.size W W') : Dr A0 c0 A1 c1 n0 n1 N P W' := ⟨h.1, h.2.1, Kd.C_below h.2.2.1 hb, h.2.2.2.1, h.2.2.2.2.1, Kd.C_below h.2.2.2.2.2 hb⟩
theorem Dk.r {b lo hi : Nat} {A0 : Option Addr} {c0 : Nat} {A1 : Option Addr} {c1 : Nat} {N : List S25} {P : List (List S25)} {W : World} (h : Dk b lo hi (.slice A0 N.length c0) (.slice A1 P.length c1) N P W) : Dr A0 c0 A1 c1 N.length P.length N P W := by
  have h0 := Kd.R_reads' h.1
  have h1 := Kd.S_reads' h.2
  exact ⟨rfl, h0.2.1, h0.2.2, rfl, h1.2.1, h1.2.2⟩
theorem Fo_dk {ok : Nat → Prop} {b lo hi : Nat} {v0 v1 : Value} {N : List S25} {P : List (List S25)} {W : World} (h : Dk b lo hi v0 v1 N P W) (hk : ∀ k, lo ≤ k → k < hi → ok k) : Fo ok (Dk b lo hi v0 v1 N P) W := fun V hV => ⟨Kd.R_step h.1 (fun k hk' _ => hV k (hk k hk'.1 hk'.2)), Kd.S_step h.2 (fun k hk' _ => hV k (hk k hk'.1.1 hk'.1.2))⟩
theorem dk_mk {b lo : Nat} {v0 v1 : Value} {N : List S25} {P : List (List S25)} {W : World} (hle : b ≤ lo) (h0 : Kd.R k25 25 W lo (fun _ => True) v0 N) (h1 : Kd.S (Kd.slice 25 k25) 38 W lo (fun k_ => some k_ ≠ v0.ownBlock) v1 P) : Dk b lo W.heap.size v0 v1 N P W :=
  ⟨Kd.R_lower (Kd.R_mono (Kd.R_bound h0) (fun k hk => ⟨hk.2.1, hk.2.2.1⟩)) hle, Kd.S_lower (Kd.S_mono (Kd.S_bound h1) (fun k hk => ⟨⟨hk.2.1, hk.2.2.1⟩, hk.1⟩)) hle⟩
theorem toDesk_c (k : Nat) {w W : World} (HB : Below w.heap.size w W) {A0 : Option Addr} {c0 : Nat} {l0 : List S23} {A1 : Option Addr} {c1 : Nat} {l1 : List (List S23)} (hr0 : Kd.C k23 w A0 l0.length l0) (hc0 : l0.length ≤ c0) (hr1 : Kd.C (Kd.slice 23 k23) w A1 l1.length l1) (hc1 : l1.length ≤ c1) {N : List S25} {P : List (List S25)} (h : laws_toDesk.f k l0 l1 = some (N, P)) :
    Calls Try.prog 33 #[.agg #[.slice A0 l0.length c0, .slice A1 l1.length c1]] W fun e W' => ∃ (B0 : Option Addr) (d0 : Nat) (B1 : Option Addr) (d1 : Nat), e = .returned (.agg #[.slice B0 N.length d0, .slice B1 P.length d1]) ∧ Dk w.heap.size W.heap.size W'.heap.size (.slice B0 N.length d0) (.slice B1 P.length d1) N P W' ∧ Below W.heap.size W W' := by
  refine (laws_toDesk.calls k _ _ l0 _ _ l1 N P W (Kd.C_below hr0 HB) hc0 (Kd.C_below hr1 HB) hc1 h).mono ?_
  rintro e W' ⟨v0, v1, rfl, h0, h1, hb⟩
  obtain ⟨B0, d0, rfl⟩ := Kd.R_slice h0
  obtain ⟨B1, d1, rfl⟩ := Kd.S_slice h1
  exact ⟨B0, d0, B1, d1, rfl, dk_mk HB.size h0 h1, hb⟩
theorem doI_c (k : Nat) {W : World} {b : Nat} (hb0 : b ≤ W.heap.size) {A0 : Option Addr} {c0 : Nat} {A1 : Option Addr} {c1 n0 n1 : Nat} {N N' : List S25} {P P' : List (List S25)} (hd : Dr A0 c0 A1 c1 n0 n1 N P W) {x y : Int} {z : ByteArray} {ok : Bool} (h : impl_DeskDo.f k N P x y z = some (N', P', ok)) :
    Calls Try.prog 48 #[.agg #[.slice A0 n0 c0, .slice A1 n1 c1], .agg #[.int .i64 x, .int .i64 y, .string z]] W fun e W' => ∃ (B0 : Option Addr) (d0 : Nat) (B1 : Option Addr) (d1 : Nat), e = .returned (.tuple #[.agg #[.slice B0 N'.length d0, .slice B1 P'.length d1], .bool ok]) ∧ Dk b W.heap.size W'.heap.size (.slice B0 N'.length d0) (.slice B1 P'.length d1) N' P' W' ∧ Below W.heap.size W W' := by
  obtain ⟨rfl, a1, a2, rfl, a3, a4⟩ := hd
  refine (impl_DeskDo.calls k _ _ N _ _ P x y z N' P' ok W a2 a1 a4 a3 h).mono ?_
  rintro e W' ⟨v0, v1, rfl, h0, h1, hb⟩
  obtain ⟨B0, d0, rfl⟩ := Kd.R_slice h0
  obtain ⟨B1, d1, rfl⟩ := Kd.S_slice h1
  exact ⟨B0, d0, B1, d1, rfl, dk_mk hb0 h0 h1, hb⟩
theorem doS_c (k : Nat) {W : World} {A0 : Option Addr} {c0 : Nat} {A1 : Option Addr} {c1 n0 n1 : Nat} {N N' : List S25} {P P' : List (List S25)} (hd : Dr A0 c0 A1 c1 n0 n1 N P W) {x y : Int} {z : ByteArray} {ok : Bool} (h : spec_DeskDo.f k N P x y z = some (N', P', ok)) :
    Calls Try.prog 46 #[.agg #[.slice A0 n0 c0, .slice A1 n1 c1], .agg #[.int .i64 x, .int .i64 y, .string z]] W fun e W' => ∃ (B0 : Option Addr) (d0 : Nat) (B1 : Option Addr) (d1 : Nat), e = .returned (.tuple #[.agg #[.slice B0 N'.length d0, .slice B1 P'.length d1], .bool ok]) ∧ Fo (fun k => W.heap.size ≤ k ∧ k < W'.heap.size) (Dr B0 d0 B1 d1 N'.length P'.length N' P') W' ∧ Below W.heap.size W W' := by
  obtain ⟨rfl, a1, a2, rfl, a3, a4⟩ := hd
  refine (spec_DeskDo.calls k _ _ N _ _ P x y z N' P' ok W a2 a1 a4 a3 h).mono ?_
  rintro e W' ⟨v0, v1, rfl, h0, h1, hb⟩
  obtain ⟨B0, d0, rfl⟩ := Kd.R_slice h0
  obtain ⟨B1, d1, rfl, _⟩ := Kd.Q_slice h1
  refine ⟨B0, d0, B1, d1, rfl, fun V hV => ?_, hb⟩
  have g0 := Kd.R_reads' (Kd.R_step (Kd.R_bound h0) (fun k hk _ => hV k ⟨hk.2.1, hk.2.2.1⟩))
  have g1 := Kd.Q_reads' (Kd.Q_step (Kd.Q_bound h1) (fun k hk _ => hV k ⟨hk.2.1, hk.2.2.1⟩))
  exact ⟨rfl, g0.2.1, g0.2.2, rfl, g1.2.1, g1.2.2⟩
theorem eq_c (k : Nat) {W : World} {A0 : Option Addr} {c0 : Nat} {A1 : Option Addr} {c1 n0 n1 : Nat} {N : List S25} {P : List (List S25)} {B0 : Option Addr} {d0 : Nat} {B1 : Option Addr} {d1 m0 m1 : Nat} {M : List S25} {Q : List (List S25)} (h1 : Dr A0 c0 A1 c1 n0 n1 N P W) (h2 : Dr B0 d0 B1 d1 m0 m1 M Q W) {r : Bool} (h : laws_eqDesk.f k N P M Q = some r) :
    Calls Try.prog 34 #[.agg #[.slice A0 n0 c0, .slice A1 n1 c1], .agg #[.slice B0 m0 d0, .slice B1 m1 d1]] W fun e W' => e = .returned (.bool r) ∧ Below W.heap.size W W' := by
  obtain ⟨rfl, a1, a2, rfl, a3, a4⟩ := h1
  obtain ⟨rfl, b1, b2, rfl, b3, b4⟩ := h2
  exact laws_eqDesk.calls k _ _ N _ _ P _ _ M _ _ Q r W a2 a1 a4 a3 b2 b1 b4 b3 h
theorem held_c (k : Nat) {W : World} {A0 : Option Addr} {c0 : Nat} {A1 : Option Addr} {c1 n0 n1 : Nat} {N : List S25} {P : List (List S25)} (h1 : Dr A0 c0 A1 c1 n0 n1 N P W) {a r : Int} (h : laws_heldDesk.f k N P a = some r) :
    Calls Try.prog 40 #[.agg #[.slice A0 n0 c0, .slice A1 n1 c1], .int .i64 a] W fun e W' => e = .returned (.int .i64 r) ∧ Below W.heap.size W W' := by
  obtain ⟨rfl, a1, a2, rfl, a3, a4⟩ := h1
  exact laws_heldDesk.calls k _ _ N _ _ P a r W a2 a1 a4 a3 h
set_option maxHeartbeats 8000000 in
set_option maxRecDepth 100000 in
theorem mark_c (k : Nat) {w0 W : World} (HB0 : Below w0.heap.size w0 W) {lo hi : Nat} {A0 : Option Addr} {c0 : Nat} {A1 : Option Addr} {c1 : Nat} {N M : List S25} {P Q : List (List S25)} (hd : Dk w0.heap.size lo hi (.slice A0 N.length c0) (.slice A1 P.length c1) N P W) (hhi : hi ≤ W.heap.size) {a t u : Int} (hf : laws_markSayS.f k N a = some (t, M)) (hg : laws_markSaySS.f k P t = some (u, Q)) :
    Calls Try.prog 39 #[.agg #[.slice A0 N.length c0, .slice A1 P.length c1], .int .i64 a] W fun e W' => e = .returned (.int .i64 u) ∧ Fo (fun k => k < W'.heap.size) (Dr A0 c0 A1 c1 N.length P.length M Q) W' ∧ Below w0.heap.size w0 W' ∧ W.heap.size ≤ W'.heap.size ∧ (∀ k, k < W.heap.size → ¬ (lo ≤ k ∧ k < hi) → W'.heap[k]? = W.heap[k]?) := by
  have hu42 := Try.underlying42
  have HB := Aside0.mk HB0
  have HD := Aside0.mk hd
  have HF := Aside0.mk hf
  have HG := Aside0.mk hg
  have HH := Aside0.mk hhi
  clear HB0 hd hf hg hhi
  go_enter Try.func39, Try.ntmps39
  have HOWN := Aside0.mk (fun (j : Nat) (e_ : some j = (Value.slice A0 N.length c0).ownBlock) => HD.out.1.1 j e_.symm)
  go_wp2_with (first | ((with_reducible refine gate_dst (N := 2) rfl ?_); refine box_event ?hg (N := 2) ?hd (cs := #[.slice A0 N.length c0, .slice A1 P.length c1]) (t := 42) ?hr ?_; (case hd => rfl); (case hg => rfl); (case hr => first | (go_simp; done) | (go_simp; rfl)); intro g2 hg w1 hbox hb; have HBX := Aside0.mk hbox; have HG2 := Aside0.mk hg; have HB1 := Aside0.mk hb; have hcz0 : w1.cell? ⟨g2, 0, none⟩ = some (.slice A0 N.length c0) := (blk_cell hbox 0).trans rfl; have hcz1 : w1.cell? ⟨g2, 1, none⟩ = some (.slice A1 P.length c1) := (blk_cell hbox 1).trans rfl; have hfz0 := blk_frozen hbox 0; have hfz1 := blk_frozen hbox 1; clear hbox hb hg) | ((with_reducible refine gate_callee (f := 38) rfl ?_); refine goesL_ (some 8) rfl rfl Try.func38 (by kernel_rfl) rfl #[.slice A0 N.length c0, .int .i64 a] rfl (by (try simp only [List.map_toArray, List.map_cons, List.map_nil]); first | done | rfl) ?_; (with_reducible refine (laws_markSayS.calls k (fun k_ => some k_ = (Value.slice A0 N.length c0).ownBlock) _ N a t M w0 _ ?sB ?sO HF.out).mono ?_); (case sB => exact below_step HB.out HB1.out); (case sO => exact Kd.R_tight rfl (Kd.R_below HD.out.1 HB1.out)); rintro e w2 ⟨rfl, hr_, hb_, hk_⟩; refine ⟨_, rfl, ?_⟩; have HB2 := Aside0.mk hb_; have HK2 := Aside0.mk hk_; have HR2 := Aside0.mk (Kd.R_tight rfl hr_); have HS2 := Aside0.mk (Kd.S_step (Kd.S_below HD.out.2 HB1.out) (fun j hj hlt => hk_.2 j hlt hj.2)); have HX2 := Aside0.mk ((hk_.2 g2 (blk_lt HBX.out) (fun e_ => by have z1_ := HOWN.out g2 e_; have z2_ := HG2.out; have z3_ := HH.out; omega)).trans HBX.out); clear hcz0 hcz1 hfz0 hfz1 hr_ hb_ hk_; have hcz0 : w2.cell? ⟨g2, 0, none⟩ = some (.slice A0 N.length c0) := (blk_cell HX2.out 0).trans rfl; have hcz1 : w2.cell? ⟨g2, 1, none⟩ = some (.slice A1 P.length c1) := (blk_cell HX2.out 1).trans rfl; have hfz0 := blk_frozen HX2.out 0; have hfz1 := blk_frozen HX2.out 1) | ((with_reducible refine gate_callee (f := 69) rfl ?_); refine goesL_ (some 12) rfl rfl Try.func69 (by kernel_rfl) rfl #[.slice A1 P.length c1, .int .i64 t] rfl (by (try simp only [List.map_toArray, List.map_cons, List.map_nil]); first | done | rfl) ?_; (with_reducible refine (laws_markSaySS.calls k (fun k_ => (lo ≤ k_ ∧ k_ < hi) ∧ some k_ ≠ (Value.slice A0 N.length c0).ownBlock) _ P t u Q w0 _ ?sB ?sO HG.out).mono ?_); (case sB => exact HB2.out); (case sO => exact HS2.out); rintro e w3 ⟨rfl, hs_, hb_, hk_⟩; refine ⟨_, rfl, ?_⟩; have HB3 := Aside0.mk hb_; have HK3 := Aside0.mk hk_; have HS3 := Aside0.mk hs_; clear hcz0 hcz1 hfz0 hfz1 hs_ hb_ hk_))
  go_ret
  refine ⟨rfl, fun V hV => ?_, HB3.out, Nat.le_trans HB1.out.size (Nat.le_trans HK2.out.1 HK3.out.1), fun j hj hn => ?_⟩
  · have g0 := Kd.R_reads' (Kd.R_step (Kd.R_step HR2.out (fun j hj hlt => HK3.out.2 j hlt (fun h_ => h_.2 hj))) (fun j _ hlt => hV j hlt))
    have g1 := Kd.S_reads' (Kd.S_step HS3.out (fun j _ hlt => hV j hlt))
    exact ⟨g0.1, g0.2.1, g0.2.2, g1.1, g1.2.1, g1.2.2⟩
  · have h1 := HB1.out.block j hj
    have l1 := Nat.lt_of_lt_of_le hj HB1.out.size
    have h2 := HK2.out.2 j l1 (fun e_ => by have z_ := HOWN.out j e_; have y_ := hn z_.1; omega)
    exact (HK3.out.2 j (Nat.lt_of_lt_of_le l1 HK2.out.1) (fun h_ => by have z_ := h_.1; have y_ := hn z_.1; omega)).trans (h2.trans h1)
def laws_FnExactDeskDo.T8 : Bool × List (List Nat × List Nat) := (true, [([], []), ([0], [0]), ([], []), ([2, 1], [2]), ([1, 3, 3], [1, 3]), ([4], [4]), ([5], [5]), ([5], [5]), ([], []), ([8, 6, 4, 0, 1, 2, 3, 4, 5, 6, 8], [6, 8]), ([7, 9, 0, 1, 2, 3, 4, 5, 6, 7, 8, 9], [7])])
def laws_FnExactDeskDo.B8 : List Nat := [0, 1, 0, 7, 15, 31, 63, 63, 0, 383, 1023]
theorem laws_FnExactDeskDo.tab8 : rtab .any (opsOf Try.f12 8) = laws_FnExactDeskDo.T8 := by kernel_rfl
theorem laws_FnExactDeskDo.bits8 : waitsOk laws_FnExactDeskDo.T8.2 laws_FnExactDeskDo.B8 = true := by kernel_rfl
def laws_FnExactDeskDo.T10 : Bool × List (List Nat × List Nat) := (true, [([], []), ([], []), ([1], [1]), ([0, 2, 2], [0, 2]), ([3], [3]), ([4], [4]), ([4], [4]), ([], []), ([7, 5, 3, 0, 1, 2, 3, 4, 5, 7], [5, 7]), ([6, 8, 0, 1, 2, 3, 4, 5, 6, 7, 8], [6])])
def laws_FnExactDeskDo.B10 : List Nat := [0, 0, 2, 7, 15, 31, 31, 0, 191, 511]
theorem laws_FnExactDeskDo.tab10 : rtab .any (opsOf Try.f12 10) = laws_FnExactDeskDo.T10 := by kernel_rfl
theorem laws_FnExactDeskDo.bits10 : waitsOk laws_FnExactDeskDo.T10.2 laws_FnExactDeskDo.B10 = true := by kernel_rfl
def laws_FnExactDeskDo.T27 : Bool × List (List Nat × List Nat) := (true, [([], []), ([0], [0]), ([], []), ([2, 1], [2]), ([1, 3, 3], [1, 3]), ([4], [4]), ([5], [5]), ([5], [5]), ([], []), ([8, 6, 4, 0, 1, 2, 3, 4, 5, 6, 8], [6, 8]), ([7, 9, 0, 1, 2, 3, 4, 5, 6, 7, 8, 9], [7])])
def laws_FnExactDeskDo.B27 : List Nat := [0, 1, 0, 7, 15, 31, 63, 63, 0, 383, 1023]
theorem laws_FnExactDeskDo.tab27 : rtab .any (opsOf Try.f12 27) = laws_FnExactDeskDo.T27 := by kernel_rfl
theorem laws_FnExactDeskDo.bits27 : waitsOk laws_FnExactDeskDo.T27.2 laws_FnExactDeskDo.B27 = true := by kernel_rfl
set_option maxHeartbeats 8000000 in
set_option maxRecDepth 100000 in
theorem do_early1 (k : Nat) {w : World} {A0 : Option Addr} {c0 : Nat} {l0 : List S23} {A1 : Option Addr} {c1 : Nat} {l1 : List (List S23)} (a b : Int) (s : ByteArray) (hr0 : Kd.C k23 w A0 l0.length l0) (hc0 : l0.length ≤ c0) (hr1 : Kd.C (Kd.slice 23 k23) w A1 l1.length l1) (hc1 : l1.length ≤ c1)
    {u1 : Int} (hz1 : laws_szDesk.f k l0 l1 1048576 = some u1) (hu1 : u1 < 0) :
    Calls Try.prog 12 #[.agg #[.slice A0 l0.length c0, .slice A1 l1.length c1], .agg #[.int .i64 a, .int .i64 b, .string s]] w fun e w' => e = .returned (.bool true) ∧ Below w.heap.size w w' := by
  have hu50 := Try.underlying50
  have hu66 := Try.underlying66
  have hu42 := Try.underlying42
  have d1 : decide (u1 < 0) = true := decide_eq_true hu1
  clear hu1
  have HR0 := Aside0.mk hr0
  have HC0 := Aside0.mk hc0
  have HR1 := Aside0.mk hr1
  have HC1 := Aside0.mk hc1
  have HB := Aside0.mk (Below.refl w.heap.size w)
  have HZ1 := Aside0.mk hz1
  clear hr0 hc0 hr1 hc1 hz1
  go_enter Try.func12, Try.ntmps12
  go_wp2_with (first | ((with_reducible refine gate_dst (N := 2) rfl ?_); refine box_event ?hg (N := 2) ?hd (cs := #[.slice A0 l0.length c0, .slice A1 l1.length c1]) (t := 50) ?hr ?_; (case hd => rfl); (case hg => rfl); (case hr => first | (go_simp; done) | (go_simp; rfl)); intro g2 hg_ w1 hbox_ hb_; have HX2 := Aside0.mk hbox_; have n0_ := Aside0.mk (below_step HB.out hb_); clear HB; have HB := n0_; clear n0_ hbox_ hb_ hg_) | ((with_reducible refine gate_dst (N := 3) rfl ?_); refine box_event ?hg (N := 3) ?hd (cs := #[.int .i64 a, .int .i64 b, .string s]) (t := 66) ?hr ?_; (case hd => rfl); (case hg => rfl); (case hr => first | (go_simp; done) | (go_simp; rfl)); intro g3 hg_ w2 hbox_ hb_; have n0_ := Aside0.mk (blk_below (o := .cells #[.slice A0 l0.length c0, .slice A1 l1.length c1] 50 (0, 0)) HX2.out hb_); clear HX2; have HX2 := n0_; clear n0_; have HX3 := Aside0.mk hbox_; have n0_ := Aside0.mk (below_step HB.out hb_); clear HB; have HB := n0_; clear n0_ hbox_ hb_ hg_; have hca_0 : w2.cell? ⟨g2, 0, none⟩ = some (.slice A0 l0.length c0) := (blk_cell HX2.out 0).trans rfl; have hfa_0 := blk_frozen HX2.out 0; have hca_1 : w2.cell? ⟨g2, 1, none⟩ = some (.slice A1 l1.length c1) := (blk_cell HX2.out 1).trans rfl; have hfa_1 := blk_frozen HX2.out 1) | ((with_reducible refine gate_callee (f := 31) rfl ?_); refine goesL_ (some 18) rfl rfl Try.func31 (by kernel_rfl) rfl #[.agg #[.slice A0 l0.length c0, .slice A1 l1.length c1], .int .i64 1048576] rfl (by (try simp only [List.map_toArray, List.map_cons, List.map_nil]); first | done | rfl) ?_; (refine (laws_szDesk.calls k _ _ l0 _ _ l1 1048576 u1 _ (Kd.C_below HR0.out HB.out) HC0.out (Kd.C_below HR1.out HB.out) HC1.out HZ1.out).mono ?_); rintro e_ w3 ⟨rfl, hb_⟩; refine ⟨_, rfl, ?_⟩; (try clear hca_0 hfa_0 hca_1 hfa_1); have n0_ := Aside0.mk (blk_below (o := .cells #[.slice A0 l0.length c0, .slice A1 l1.length c1] 50 (0, 0)) HX2.out hb_); have n1_ := Aside0.mk (blk_below (o := .cells #[.int .i64 a, .int .i64 b, .string s] 66 (0, 0)) HX3.out hb_); have n2_ := Aside0.mk (below_step HB.out hb_); clear HX2 HX3 HB; have HX2 := n0_; have HX3 := n1_; have HB := n2_; clear n0_ n1_ n2_; clear hb_; have hcb_0 : w3.cell? ⟨g3, 0, none⟩ = some (.int .i64 a) := (blk_cell HX3.out 0).trans rfl; have hfb_0 := blk_frozen HX3.out 0; have hcb_1 : w3.cell? ⟨g3, 1, none⟩ = some (.int .i64 b) := (blk_cell HX3.out 1).trans rfl; have hfb_1 := blk_frozen HX3.out 1; have hcb_2 : w3.cell? ⟨g3, 2, none⟩ = some (.string s) := (blk_cell HX3.out 2).trans rfl; have hfb_2 := blk_frozen HX3.out 2))
  go_ret
  exact ⟨rfl, HB.out⟩
set_option maxHeartbeats 8000000 in
set_option maxRecDepth 100000 in
theorem do_early2 (k : Nat) {w : World} {A0 : Option Addr} {c0 : Nat} {l0 : List S23} {A1 : Option Addr} {c1 : Nat} {l1 : List (List S23)} (a b : Int) (s : ByteArray) (hr0 : Kd.C k23 w A0 l0.length l0) (hc0 : l0.length ≤ c0) (hr1 : Kd.C (Kd.slice 23 k23) w A1 l1.length l1) (hc1 : l1.length ≤ c1)
    {u1 u2 : Int} (hz1 : laws_szDesk.f k l0 l1 1048576 = some u1) (hu1 : ¬ u1 < 0) (hz2 : laws_szDeed.f a b s u1 = some u2) (hu2 : u2 < 0) :
    Calls Try.prog 12 #[.agg #[.slice A0 l0.length c0, .slice A1 l1.length c1], .agg #[.int .i64 a, .int .i64 b, .string s]] w fun e w' => e = .returned (.bool true) ∧ Below w.heap.size w w' := by
  have hu50 := Try.underlying50
  have hu66 := Try.underlying66
  have hu42 := Try.underlying42
  have d1 : decide (u1 < 0) = false := decide_eq_false hu1
  have d2 : decide (u2 < 0) = true := decide_eq_true hu2
  clear hu1 hu2
  have HR0 := Aside0.mk hr0
  have HC0 := Aside0.mk hc0
  have HR1 := Aside0.mk hr1
  have HC1 := Aside0.mk hc1
  have HB := Aside0.mk (Below.refl w.heap.size w)
  have HZ1 := Aside0.mk hz1
  have HZ2 := Aside0.mk hz2
  clear hr0 hc0 hr1 hc1 hz1 hz2
  go_enter Try.func12, Try.ntmps12
  go_wp2_with (first | ((with_reducible refine gate_dst (N := 2) rfl ?_); refine box_event ?hg (N := 2) ?hd (cs := #[.slice A0 l0.length c0, .slice A1 l1.length c1]) (t := 50) ?hr ?_; (case hd => rfl); (case hg => rfl); (case hr => first | (go_simp; done) | (go_simp; rfl)); intro g2 hg_ w1 hbox_ hb_; have HX2 := Aside0.mk hbox_; have n0_ := Aside0.mk (below_step HB.out hb_); clear HB; have HB := n0_; clear n0_ hbox_ hb_ hg_) | ((with_reducible refine gate_dst (N := 3) rfl ?_); refine box_event ?hg (N := 3) ?hd (cs := #[.int .i64 a, .int .i64 b, .string s]) (t := 66) ?hr ?_; (case hd => rfl); (case hg => rfl); (case hr => first | (go_simp; done) | (go_simp; rfl)); intro g3 hg_ w2 hbox_ hb_; have n0_ := Aside0.mk (blk_below (o := .cells #[.slice A0 l0.length c0, .slice A1 l1.length c1] 50 (0, 0)) HX2.out hb_); clear HX2; have HX2 := n0_; clear n0_; have HX3 := Aside0.mk hbox_; have n0_ := Aside0.mk (below_step HB.out hb_); clear HB; have HB := n0_; clear n0_ hbox_ hb_ hg_; have hca_0 : w2.cell? ⟨g2, 0, none⟩ = some (.slice A0 l0.length c0) := (blk_cell HX2.out 0).trans rfl; have hfa_0 := blk_frozen HX2.out 0; have hca_1 : w2.cell? ⟨g2, 1, none⟩ = some (.slice A1 l1.length c1) := (blk_cell HX2.out 1).trans rfl; have hfa_1 := blk_frozen HX2.out 1) | ((with_reducible refine gate_callee (f := 31) rfl ?_); refine goesL_ (some 18) rfl rfl Try.func31 (by kernel_rfl) rfl #[.agg #[.slice A0 l0.length c0, .slice A1 l1.length c1], .int .i64 1048576] rfl (by (try simp only [List.map_toArray, List.map_cons, List.map_nil]); first | done | rfl) ?_; (refine (laws_szDesk.calls k _ _ l0 _ _ l1 1048576 u1 _ (Kd.C_below HR0.out HB.out) HC0.out (Kd.C_below HR1.out HB.out) HC1.out HZ1.out).mono ?_); rintro e_ w3 ⟨rfl, hb_⟩; refine ⟨_, rfl, ?_⟩; (try clear hca_0 hfa_0 hca_1 hfa_1); have n0_ := Aside0.mk (blk_below (o := .cells #[.slice A0 l0.length c0, .slice A1 l1.length c1] 50 (0, 0)) HX2.out hb_); have n1_ := Aside0.mk (blk_below (o := .cells #[.int .i64 a, .int .i64 b, .string s] 66 (0, 0)) HX3.out hb_); have n2_ := Aside0.mk (below_step HB.out hb_); clear HX2 HX3 HB; have HX2 := n0_; have HX3 := n1_; have HB := n2_; clear n0_ n1_ n2_; clear hb_; have hcb_0 : w3.cell? ⟨g3, 0, none⟩ = some (.int .i64 a) := (blk_cell HX3.out 0).trans rfl; have hfb_0 := blk_frozen HX3.out 0; have hcb_1 : w3.cell? ⟨g3, 1, none⟩ = some (.int .i64 b) := (blk_cell HX3.out 1).trans rfl; have hfb_1 := blk_frozen HX3.out 1; have hcb_2 : w3.cell? ⟨g3, 2, none⟩ = some (.string s) := (blk_cell HX3.out 2).trans rfl; have hfb_2 := blk_frozen HX3.out 2) | ((with_reducible refine gate_callee (f := 45) rfl ?_); refine goesL_ (some 23) rfl rfl Try.func45 (by kernel_rfl) rfl #[.agg #[.int .i64 a, .int .i64 b, .string s], .int .i64 u1] rfl (by (try simp only [List.map_toArray, List.map_cons, List.map_nil]); first | done | rfl) ?_; (refine (laws_szDeed.calls a b s u1 u2 _ HZ2.out).mono ?_); rintro e_ w4 ⟨rfl, hb_⟩; refine ⟨_, rfl, ?_⟩; (try clear hcb_0 hfb_0 hcb_1 hfb_1 hcb_2 hfb_2); have n0_ := Aside0.mk (blk_below (o := .cells #[.slice A0 l0.length c0, .slice A1 l1.length c1] 50 (0, 0)) HX2.out hb_); have n1_ := Aside0.mk (blk_below (o := .cells #[.int .i64 a, .int .i64 b, .string s] 66 (0, 0)) HX3.out hb_); have n2_ := Aside0.mk (below_step HB.out hb_); clear HX2 HX3 HB; have HX2 := n0_; have HX3 := n1_; have HB := n2_; clear n0_ n1_ n2_; clear hb_))
  go_ret
  exact ⟨rfl, HB.out⟩
set_option maxHeartbeats 8000000 in
set_option maxRecDepth 100000 in
theorem do_walk (k : Nat) {w : World} {A0 : Option Addr} {c0 : Nat} {l0 : List S23} {A1 : Option Addr} {c1 : Nat} {l1 : List (List S23)} (a b : Int) (s : ByteArray) (hr0 : Kd.C k23 w A0 l0.length l0) (hc0 : l0.length ≤ c0) (hr1 : Kd.C (Kd.slice 23 k23) w A1 l1.length l1) (hc1 : l1.length ≤ c1)
    {u1 u2 : Int} (hz1 : laws_szDesk.f k l0 l1 1048576 = some u1) (hu1 : ¬ u1 < 0) (hz2 : laws_szDeed.f a b s u1 = some u2) (hu2 : ¬ u2 < 0)
    {N N' M M' : List S25} {P P' Q Q' : List (List S25)} {ok : Bool} {t u t' u' : Int}
    (hT : laws_toDesk.f k l0 l1 = some (N, P)) (hA : laws_toDeed.f a b s = some (a, b, s))
    (hS : spec_DeskDo.f k N P a b s = some (N', P', ok)) (hI : impl_DeskDo.f k N P a b s = some (N', P', ok))
    (hE : laws_eqDesk.f k N' P' N' P' = some true) (hE0 : laws_eqDesk.f k N P N P = some true)
    (hm1 : laws_markSayS.f k N 1 = some (t, M)) (hm2 : laws_markSaySS.f k P t = some (u, Q)) (hu : ¬ u < 0)
    (hn1 : laws_markSayS.f k N' 1 = some (t', M')) (hn2 : laws_markSaySS.f k P' t' = some (u', Q')) (hH : laws_heldDesk.f k M' Q' 1 = some u') (hu' : ¬ u' < 0) :
    Calls Try.prog 12 #[.agg #[.slice A0 l0.length c0, .slice A1 l1.length c1], .agg #[.int .i64 a, .int .i64 b, .string s]] w fun e w' => e = .returned (.bool true) ∧ Below w.heap.size w w' := by
  have hu50 := Try.underlying50
  have hu66 := Try.underlying66
  have hu42 := Try.underlying42
  have d1 : decide (u1 < 0) = false := decide_eq_false hu1
  have d2 : decide (u2 < 0) = false := decide_eq_false hu2
  have d3 : decide (u < 0) = false := decide_eq_false hu
  have d4 : decide (u' < 0) = false := decide_eq_false hu'
  have d6 : (ok != ok) = false := by simp
  have d7 : (u' != u') = false := by simp
  clear hu1 hu2 hu hu'
  have HR0 := Aside0.mk hr0
  have HC0 := Aside0.mk hc0
  have HR1 := Aside0.mk hr1
  have HC1 := Aside0.mk hc1
  have HB := Aside0.mk (Below.refl w.heap.size w)
  have HZ1 := Aside0.mk hz1
  have HZ2 := Aside0.mk hz2
  have HEE := Aside0.mk hE
  have HE0 := Aside0.mk hE0
  have HM1 := Aside0.mk hm1
  have HM2 := Aside0.mk hm2
  have HN1 := Aside0.mk hn1
  have HN2 := Aside0.mk hn2
  have HHD := Aside0.mk hH
  have HT0 := Aside0.mk hT
  have HA0 := Aside0.mk hA
  have HS0 := Aside0.mk hS
  have HI0 := Aside0.mk hI
  clear hr0 hc0 hr1 hc1 hz1 hz2 hE hE0 hm1 hm2 hn1 hn2 hH hT hA hS hI
  go_enter Try.func12, Try.ntmps12
  go_wp2_with (first | ((with_reducible refine gate_dst (N := 2) rfl ?_); refine box_event ?hg (N := 2) ?hd (cs := #[.slice A0 l0.length c0, .slice A1 l1.length c1]) (t := 50) ?hr ?_; (case hd => rfl); (case hg => rfl); (case hr => first | (go_simp; done) | (go_simp; rfl)); intro g2 hg_ w1 hbox_ hb_; have HX2 := Aside0.mk hbox_; have HG2 : Aside0 (w.heap.size ≤ g2) := ⟨by rw [hg_]; exact HB.out.size⟩; have n0_ := Aside0.mk (below_step HB.out hb_); clear HB; have HB := n0_; clear n0_ hbox_ hb_ hg_) | ((with_reducible refine gate_dst (N := 3) rfl ?_); refine box_event ?hg (N := 3) ?hd (cs := #[.int .i64 a, .int .i64 b, .string s]) (t := 66) ?hr ?_; (case hd => rfl); (case hg => rfl); (case hr => first | (go_simp; done) | (go_simp; rfl)); intro g3 hg_ w2 hbox_ hb_; have n0_ := Aside0.mk (blk_below (o := .cells #[.slice A0 l0.length c0, .slice A1 l1.length c1] 50 (0, 0)) HX2.out hb_); clear HX2; have HX2 := n0_; clear n0_; have HX3 := Aside0.mk hbox_; have HG3 : Aside0 (w.heap.size ≤ g3) := ⟨by rw [hg_]; exact HB.out.size⟩; have n0_ := Aside0.mk (below_step HB.out hb_); clear HB; have HB := n0_; clear n0_ hbox_ hb_ hg_; have hca_0 : w2.cell? ⟨g2, 0, none⟩ = some (.slice A0 l0.length c0) := (blk_cell HX2.out 0).trans rfl; have hfa_0 := blk_frozen HX2.out 0; have hca_1 : w2.cell? ⟨g2, 1, none⟩ = some (.slice A1 l1.length c1) := (blk_cell HX2.out 1).trans rfl; have hfa_1 := blk_frozen HX2.out 1) | ((with_reducible refine gate_callee (f := 31) rfl ?_); refine goesL_ (some 18) rfl rfl Try.func31 (by kernel_rfl) rfl #[.agg #[.slice A0 l0.length c0, .slice A1 l1.length c1], .int .i64 1048576] rfl (by (try simp only [List.map_toArray, List.map_cons, List.map_nil]); first | done | rfl) ?_; (refine (laws_szDesk.calls k _ _ l0 _ _ l1 1048576 u1 _ (Kd.C_below HR0.out HB.out) HC0.out (Kd.C_below HR1.out HB.out) HC1.out HZ1.out).mono ?_); rintro e_ w3 ⟨rfl, hb_⟩; refine ⟨_, rfl, ?_⟩; (try clear hca_0 hfa_0 hca_1 hfa_1); have n0_ := Aside0.mk (blk_below (o := .cells #[.slice A0 l0.length c0, .slice A1 l1.length c1] 50 (0, 0)) HX2.out hb_); have n1_ := Aside0.mk (blk_below (o := .cells #[.int .i64 a, .int .i64 b, .string s] 66 (0, 0)) HX3.out hb_); have n2_ := Aside0.mk (below_step HB.out hb_); clear HX2 HX3 HB; have HX2 := n0_; have HX3 := n1_; have HB := n2_; clear n0_ n1_ n2_; clear hb_; have hcb_0 : w3.cell? ⟨g3, 0, none⟩ = some (.int .i64 a) := (blk_cell HX3.out 0).trans rfl; have hfb_0 := blk_frozen HX3.out 0; have hcb_1 : w3.cell? ⟨g3, 1, none⟩ = some (.int .i64 b) := (blk_cell HX3.out 1).trans rfl; have hfb_1 := blk_frozen HX3.out 1; have hcb_2 : w3.cell? ⟨g3, 2, none⟩ = some (.string s) := (blk_cell HX3.out 2).trans rfl; have hfb_2 := blk_frozen HX3.out 2) | ((with_reducible refine gate_callee (f := 45) rfl ?_); refine goesL_ (some 23) rfl rfl Try.func45 (by kernel_rfl) rfl #[.agg #[.int .i64 a, .int .i64 b, .string s], .int .i64 u1] rfl (by (try simp only [List.map_toArray, List.map_cons, List.map_nil]); first | done | rfl) ?_; (refine (laws_szDeed.calls a b s u1 u2 _ HZ2.out).mono ?_); rintro e_ w4 ⟨rfl, hb_⟩; refine ⟨_, rfl, ?_⟩; (try clear hcb_0 hfb_0 hcb_1 hfb_1 hcb_2 hfb_2); have n0_ := Aside0.mk (blk_below (o := .cells #[.slice A0 l0.length c0, .slice A1 l1.length c1] 50 (0, 0)) HX2.out hb_); have n1_ := Aside0.mk (blk_below (o := .cells #[.int .i64 a, .int .i64 b, .string s] 66 (0, 0)) HX3.out hb_); have n2_ := Aside0.mk (below_step HB.out hb_); clear HX2 HX3 HB; have HX2 := n0_; have HX3 := n1_; have HB := n2_; clear n0_ n1_ n2_; clear hb_))
  obtain ⟨n_, hn_⟩ : ∃ n, n = w4.heap.size := ⟨_, rfl⟩
  have HWN : Aside0 (w.heap.size ≤ n_) := ⟨by rw [hn_]; exact HB.out.size⟩
  have HN : Aside0 (n_ ≤ w4.heap.size) := ⟨Nat.le_of_eq hn_⟩
  obtain ⟨PPA, HFA, hPA⟩ : ∃ PP : World → Prop, Aside0 (Fo (fun k_ => k_ < n_) PP w4) ∧ (∀ V, PP V → V.heap[g2]? = some (.cells #[.slice A0 l0.length c0, .slice A1 l1.length c1] 50 (0, 0)) ∧ V.heap[g3]? = some (.cells #[.int .i64 a, .int .i64 b, .string s] 66 (0, 0))) := ⟨_, ⟨(Fo_box HX2.out (by rw [hn_]; exact blk_lt HX2.out)).and (Fo_box HX3.out (by rw [hn_]; exact blk_lt HX3.out))⟩, fun _ h => h⟩
  have HSV : ∀ w', PPA w' → w'.cell? ⟨g2, 0, none⟩ = some (.slice A0 l0.length c0) ∧ w'.cell? ⟨g2, 1, none⟩ = some (.slice A1 l1.length c1) ∧ w'.cell? ⟨g3, 0, none⟩ = some (.int .i64 a) ∧ w'.cell? ⟨g3, 1, none⟩ = some (.int .i64 b) ∧ w'.cell? ⟨g3, 2, none⟩ = some (.string s) := fun w' h_ => ⟨(blk_cell (hPA w' h_).1 0).trans rfl, (blk_cell (hPA w' h_).1 1).trans rfl, (blk_cell (hPA w' h_).2 0).trans rfl, (blk_cell (hPA w' h_).2 1).trans rfl, (blk_cell (hPA w' h_).2 2).trans rfl⟩
  clear HX2 HX3 hn_
  replace HFA := Aside0.mk (HFA.out.step (W' := w4.drew) (fun _ _ => rfl))
  replace HN : Aside0 (n_ ≤ w4.drew.heap.size) := ⟨HN.out⟩
  replace HB := Aside0.mk (below_drew1 HB.out)
  refine start_ (n := 11) (S := fun w' => w'.cell? ⟨g2, 0, none⟩ = some (.slice A0 l0.length c0) ∧ w'.cell? ⟨g2, 1, none⟩ = some (.slice A1 l1.length c1) ∧ w'.cell? ⟨g3, 0, none⟩ = some (.int .i64 a) ∧ w'.cell? ⟨g3, 1, none⟩ = some (.int .i64 b) ∧ w'.cell? ⟨g3, 2, none⟩ = some (.string s)) (ds := []) #[false, false, false, false, false, false, false, false, false, false, false] (by kernel_rfl) rfl rfl (HSV _ HFA.out.now) (fun hHeld => ?_); refine with_tabW laws_FnExactDeskDo.tab8 laws_FnExactDeskDo.bits8 (fun HT_ HW_ => ?_)
  generalize w4.drew = wa1 at HFA HN HB hHeld ⊢
  refine take_ (i := 0) (N := some 27) (v := ?_) (a' := ?_) #[true, false, false, false, false, false, false, false, false, false, false] rfl rfl (take_ofW HT_.out HW_.out (by kernel_rfl)) (fun _ _ _ h => h) (Or.inl ⟨by rfl, ?_⟩) hHeld ?_ ?_
  rotate_left
  · rintro w' ⟨s0, s1, s2, s3, s4⟩
    go_simp
    with_reducible rfl
  rotate_left
  · simp only [Act.put, List.setIfInBounds_toArray, List.set_cons_zero, List.set_cons_succ, i64_w, i32_w]
    rfl
  refine take_ (i := 2) (N := some 29) (v := ?_) (a' := ?_) #[true, false, true, false, false, false, false, false, false, false, false] rfl rfl (take_ofW HT_.out HW_.out (by kernel_rfl)) (fun _ _ _ h => h) (Or.inl ⟨by rfl, ?_⟩) hHeld ?_ ?_
  rotate_left
  · rintro w' ⟨s0, s1, s2, s3, s4⟩
    go_simp
    with_reducible rfl
  rotate_left
  · simp only [Act.put, List.setIfInBounds_toArray, List.set_cons_zero, List.set_cons_succ, i64_w, i32_w]
    rfl
  refine join_ (σ := Value × Value × Value × Value × Nat × Nat × Nat) 2 #[true, true, true, true, true, true, true, true, true, false, false] (fun s_ => [(28, .agg #[s_.1, s_.2.1]), (30, .agg #[.int .i64 a, .int .i64 b, .string s]), (31, .tuple #[.agg #[s_.2.2.1, s_.2.2.2.1], .bool ok]), (6, .pointer (some ⟨s_.2.2.2.2.1, 0, none⟩)), (26, .tuple #[.agg #[s_.2.2.1, s_.2.2.2.1], .bool ok]), (32, .agg #[s_.2.2.1, s_.2.2.2.1]), (33, .bool ok)]) (fun s_ w' => (w'.cell? ⟨g2, 0, none⟩ = some (.slice A0 l0.length c0) ∧ w'.cell? ⟨g2, 1, none⟩ = some (.slice A1 l1.length c1) ∧ w'.cell? ⟨g3, 0, none⟩ = some (.int .i64 a) ∧ w'.cell? ⟨g3, 1, none⟩ = some (.int .i64 b) ∧ w'.cell? ⟨g3, 2, none⟩ = some (.string s)) ∧ Fo (fun k_ => k_ < n_) PPA w' ∧  (∃ (B0 : Option Addr) (d0 : Nat) (B1 : Option Addr) (d1 : Nat), s_.2.2.1 = .slice B0 N'.length d0 ∧ s_.2.2.2.1 = .slice B1 P'.length d1 ∧ Fo (fun k_ => s_.2.2.2.2.2.1 ≤ k_ ∧ k_ < s_.2.2.2.2.2.2) (Dr B0 d0 B1 d1 N'.length P'.length N' P') w') ∧ w'.heap[s_.2.2.2.2.1]? = some (.cells #[.slice none 0 0, .slice none 0 0] 42 (0, 0)) ∧ (n_ ≤ s_.2.2.2.2.1 ∧ n_ ≤ s_.2.2.2.2.2.1 ∧ s_.2.2.2.2.2.1 ≤ s_.2.2.2.2.2.2 ∧ s_.2.2.2.2.2.2 ≤ w'.heap.size ∧ (s_.2.2.2.2.1 < s_.2.2.2.2.2.1 ∨ s_.2.2.2.2.2.2 ≤ s_.2.2.2.2.1)) ∧ n_ ≤ w'.heap.size ∧ Below w.heap.size w w') ?_ ?_
  rotate_left
  · intro hCont
    refine two_ (i := 1) (j := 8) (Ni := some 28) (Nj := some 6) #[true, true, true, false, false, false, false, false, false, false, false] #[true, false, true, false, false, false, false, false, true, false, false] rfl rfl rfl rfl (two_of HT_.out (by kernel_rfl)) (by decide) (by decide) (fun K hK => ?_) (fun K hK => ?_)
    · skip
      refine goes_ Try.func33 (by kernel_rfl) rfl #[.agg #[.slice A0 l0.length c0, .slice A1 l1.length c1]] (by rfl) rfl rfl (by (try simp only [List.map_toArray, List.map_cons, List.map_nil]); first | done | rfl) ?_
      refine (toDesk_c k HB.out HR0.out HC0.out HR1.out HC1.out HT0.out).mono ?_
      rintro e_ wb2 ⟨X0, y0, X1, y1, rfl, hd_, hb_⟩
      refine ⟨_, rfl, ?_⟩
      replace HFA := Aside0.mk (HFA.out.below (fun k_ h_ => h_) HN.out hb_)
      replace HN := Aside0.mk (Nat.le_trans HN.out hb_.size)
      replace HB := Aside0.mk (below_step HB.out hb_)
      have HX := Aside0.mk hd_.r
      clear hd_ hb_
      refine hK.out _ _ (HSV _ HFA.out.now) (fun hHeld => ?_)
      clear hK K
      refine norm_ (a' := ?_) ?_ ?_
      rotate_left
      · show Act.put _ (some 28) _ = _
        simp only [Act.put, List.setIfInBounds_toArray, List.set_cons_zero, List.set_cons_succ, i64_w, i32_w]
        rfl
      refine two_ (i := 3) (j := 8) (Ni := some 30) (Nj := some 6) #[true, true, true, true, false, false, false, false, false, false, false] #[true, true, true, false, false, false, false, false, true, false, false] rfl rfl rfl rfl (two_of HT_.out (by kernel_rfl)) (by decide) (by decide) (fun K hK => ?_) (fun K hK => ?_)
      · skip
        refine goes_ Try.func47 (by kernel_rfl) rfl #[.agg #[.int .i64 a, .int .i64 b, .string s]] (by rfl) rfl rfl (by (try simp only [List.map_toArray, List.map_cons, List.map_nil]); first | done | rfl) ?_
        refine (laws_toDeed.calls a b s a b s _ HA0.out).mono ?_
        rintro e_ wb3 ⟨rfl, hb_⟩
        refine ⟨_, rfl, ?_⟩
        replace HFA := Aside0.mk (HFA.out.below (fun k_ h_ => h_) HN.out hb_)
        replace HX := Aside0.mk (HX.out.below hb_)
        replace HN := Aside0.mk (Nat.le_trans HN.out hb_.size)
        replace HB := Aside0.mk (below_step HB.out hb_)
        clear hb_
        refine hK.out _ _ (HSV _ HFA.out.now) (fun hHeld => ?_)
        clear hK K
        refine norm_ (a' := ?_) ?_ ?_
        rotate_left
        · show Act.put _ (some 30) _ = _
          simp only [Act.put, List.setIfInBounds_toArray, List.set_cons_zero, List.set_cons_succ, i64_w, i32_w]
          rfl
        refine two_ (i := 4) (j := 8) (Ni := some 31) (Nj := some 6) #[true, true, true, true, true, false, false, false, false, false, false] #[true, true, true, true, false, false, false, false, true, false, false] rfl rfl rfl rfl (two_of HT_.out (by kernel_rfl)) (by decide) (by decide) (fun K hK => ?_) (fun K hK => ?_)
        · skip
          have HNL := HN
          refine goes_ Try.func46 (by kernel_rfl) rfl #[.agg #[.slice X0 N.length y0, .slice X1 P.length y1], .agg #[.int .i64 a, .int .i64 b, .string s]] (by rfl) rfl rfl (by (try simp only [List.map_toArray, List.map_cons, List.map_nil]); first | done | rfl) ?_
          refine (doS_c k HX.out HS0.out).mono ?_
          rintro e_ wb4 ⟨B0, d0, B1, d1, rfl, hd_, hb_⟩
          refine ⟨_, rfl, ?_⟩
          have hsz_ := hb_.size
          replace HFA := Aside0.mk (HFA.out.below (fun k_ h_ => h_) HN.out hb_)
          replace HN := Aside0.mk (Nat.le_trans HN.out hb_.size)
          replace HB := Aside0.mk (below_step HB.out hb_)
          have HU := Aside0.mk (hd_)
          have HHI := Aside0.mk (Nat.le_refl wb4.heap.size)
          have HLE := Aside0.mk hsz_
          clear hd_ hb_ hsz_
          refine hK.out _ _ (HSV _ HFA.out.now) (fun hHeld => ?_)
          clear hK K
          refine norm_ (a' := ?_) ?_ ?_
          rotate_left
          · show Act.put _ (some 31) _ = _
            simp only [Act.put, List.setIfInBounds_toArray, List.set_cons_zero, List.set_cons_succ, i64_w, i32_w]
            rfl
          refine pure_ (i := 5) (N := some 26) (v := ?_) (a' := ?_) #[true, true, true, true, true, true, false, false, false, false, false] rfl rfl (any_of HT_.out (by kernel_rfl)) (fun _ _ _ h => h) (Or.inl ⟨by rfl, ?_⟩) ?_ ?_
          rotate_left
          · intro w'
            go_simp
            with_reducible rfl
          rotate_left
          · simp only [Act.put, List.setIfInBounds_toArray, List.set_cons_zero, List.set_cons_succ, i64_w, i32_w]
            rfl
          refine pure_ (i := 6) (N := some 32) (v := ?_) (a' := ?_) #[true, true, true, true, true, true, true, false, false, false, false] rfl rfl (any_of HT_.out (by kernel_rfl)) (fun _ _ _ h => h) (Or.inl ⟨by rfl, ?_⟩) ?_ ?_
          rotate_left
          · intro w'
            go_simp
            with_reducible rfl
          rotate_left
          · simp only [Act.put, List.setIfInBounds_toArray, List.set_cons_zero, List.set_cons_succ, i64_w, i32_w]
            rfl
          refine pure_ (i := 7) (N := some 33) (v := ?_) (a' := ?_) #[true, true, true, true, true, true, true, true, false, false, false] rfl rfl (any_of HT_.out (by kernel_rfl)) (fun _ _ _ h => h) (Or.inl ⟨by rfl, ?_⟩) ?_ ?_
          rotate_left
          · intro w'
            go_simp
            with_reducible rfl
          rotate_left
          · simp only [Act.put, List.setIfInBounds_toArray, List.set_cons_zero, List.set_cons_succ, i64_w, i32_w]
            rfl
          refine one_ (i := 8) (N := some 6) #[true, true, true, true, true, true, true, true, true, false, false] rfl rfl (one_of HT_.out (by kernel_rfl)) (by decide) (fun K hK => ?_)
          refine box_step ?hg (N := 6) ?hd (cs := #[.slice none 0 0, .slice none 0 0]) (t := 42) ?hr ?_; (case hd => rfl); (case hg => rfl); (case hr => first | (go_simp; done) | (go_simp; rfl))
          intro gb hg_ wc5 hbox_ hb_
          have HNG : Aside0 (n_ ≤ gb) := ⟨by rw [hg_]; exact HN.out⟩
          have HGB : Aside0 (gb < wb3.heap.size ∨ wb4.heap.size ≤ gb) := ⟨.inr (by rw [hg_]; exact HHI.out)⟩
          replace HFA := Aside0.mk (HFA.out.below (fun k_ h_ => h_) HN.out hb_)
          replace HU := Aside0.mk (HU.out.below (fun k_ h_ => h_.2) HHI.out hb_)
          replace HHI := Aside0.mk (Nat.le_trans HHI.out hb_.size)
          replace HN := Aside0.mk (Nat.le_trans HN.out hb_.size)
          replace HB := Aside0.mk (below_step HB.out hb_)
          have HG := Aside0.mk hbox_
          clear hbox_ hb_ hg_
          refine hK.out _ _ (HSV _ HFA.out.now) (fun hHeld => ?_)
          clear hK K
          refine norm_ (a' := ?_) ?_ ?_
          rotate_left
          · show Act.put _ (some 6) _ = _
            simp only [Act.put, List.setIfInBounds_toArray, List.set_cons_zero, List.set_cons_succ, i64_w, i32_w]
            rfl
          exact norm_ (by simp only [putAll, Act.put, List.setIfInBounds_toArray, List.set_cons_zero, List.set_cons_succ]) (hCont ((.slice X0 N.length y0 : Value), (.slice X1 P.length y1 : Value), (.slice B0 N'.length d0 : Value), (.slice B1 P'.length d1 : Value), gb, wb3.heap.size, wb4.heap.size) _ ⟨(HSV _ HFA.out.now), HFA.out, ⟨B0, d0, B1, d1, rfl, rfl, HU.out⟩, HG.out, ⟨HNG.out, HNL.out, HLE.out, HHI.out, HGB.out⟩, HN.out, HB.out⟩)
        · skip
          refine box_step ?hg (N := 6) ?hd (cs := #[.slice none 0 0, .slice none 0 0]) (t := 42) ?hr ?_; (case hd => rfl); (case hg => rfl); (case hr => first | (go_simp; done) | (go_simp; rfl))
          intro gb hg_ wc6 hbox_ hb_
          have HNG : Aside0 (n_ ≤ gb) := ⟨by rw [hg_]; exact HN.out⟩
          replace HFA := Aside0.mk (HFA.out.below (fun k_ h_ => h_) HN.out hb_)
          replace HX := Aside0.mk (HX.out.below hb_)
          replace HN := Aside0.mk (Nat.le_trans HN.out hb_.size)
          replace HB := Aside0.mk (below_step HB.out hb_)
          have HG := Aside0.mk hbox_
          clear hbox_ hb_ hg_
          refine hK.out _ _ (HSV _ HFA.out.now) (fun hHeld => ?_)
          clear hK K
          refine norm_ (a' := ?_) ?_ ?_
          rotate_left
          · show Act.put _ (some 6) _ = _
            simp only [Act.put, List.setIfInBounds_toArray, List.set_cons_zero, List.set_cons_succ, i64_w, i32_w]
            rfl
          refine one_ (i := 4) (N := some 31) #[true, true, true, true, true, false, false, false, true, false, false] rfl rfl (one_of HT_.out (by kernel_rfl)) (by decide) (fun K hK => ?_)
          have HNL := HN
          have HGL := Aside0.mk (blk_lt HG.out)
          refine goes_ Try.func46 (by kernel_rfl) rfl #[.agg #[.slice X0 N.length y0, .slice X1 P.length y1], .agg #[.int .i64 a, .int .i64 b, .string s]] (by rfl) rfl rfl (by (try simp only [List.map_toArray, List.map_cons, List.map_nil]); first | done | rfl) ?_
          refine (doS_c k HX.out HS0.out).mono ?_
          rintro e_ wb7 ⟨B0, d0, B1, d1, rfl, hd_, hb_⟩
          refine ⟨_, rfl, ?_⟩
          have hsz_ := hb_.size
          replace HFA := Aside0.mk (HFA.out.below (fun k_ h_ => h_) HN.out hb_)
          replace HG := Aside0.mk (blk_below (o := .cells #[.slice none 0 0, .slice none 0 0] 42 (0, 0)) HG.out hb_)
          replace HN := Aside0.mk (Nat.le_trans HN.out hb_.size)
          replace HB := Aside0.mk (below_step HB.out hb_)
          have HU := Aside0.mk (hd_)
          have HHI := Aside0.mk (Nat.le_refl wb7.heap.size)
          have HLE := Aside0.mk hsz_
          have HGB : Aside0 (gb < wc6.heap.size ∨ wb7.heap.size ≤ gb) := ⟨.inl HGL.out⟩
          clear hd_ hb_ hsz_
          refine hK.out _ _ (HSV _ HFA.out.now) (fun hHeld => ?_)
          clear hK K
          refine norm_ (a' := ?_) ?_ ?_
          rotate_left
          · show Act.put _ (some 31) _ = _
            simp only [Act.put, List.setIfInBounds_toArray, List.set_cons_zero, List.set_cons_succ, i64_w, i32_w]
            rfl
          refine pure_ (i := 5) (N := some 26) (v := ?_) (a' := ?_) #[true, true, true, true, true, true, false, false, true, false, false] rfl rfl (any_of HT_.out (by kernel_rfl)) (fun _ _ _ h => h) (Or.inl ⟨by rfl, ?_⟩) ?_ ?_
          rotate_left
          · intro w'
            go_simp
            with_reducible rfl
          rotate_left
          · simp only [Act.put, List.setIfInBounds_toArray, List.set_cons_zero, List.set_cons_succ, i64_w, i32_w]
            rfl
          refine pure_ (i := 6) (N := some 32) (v := ?_) (a' := ?_) #[true, true, true, true, true, true, true, false, true, false, false] rfl rfl (any_of HT_.out (by kernel_rfl)) (fun _ _ _ h => h) (Or.inl ⟨by rfl, ?_⟩) ?_ ?_
          rotate_left
          · intro w'
            go_simp
            with_reducible rfl
          rotate_left
          · simp only [Act.put, List.setIfInBounds_toArray, List.set_cons_zero, List.set_cons_succ, i64_w, i32_w]
            rfl
          refine pure_ (i := 7) (N := some 33) (v := ?_) (a' := ?_) #[true, true, true, true, true, true, true, true, true, false, false] rfl rfl (any_of HT_.out (by kernel_rfl)) (fun _ _ _ h => h) (Or.inl ⟨by rfl, ?_⟩) ?_ ?_
          rotate_left
          · intro w'
            go_simp
            with_reducible rfl
          rotate_left
          · simp only [Act.put, List.setIfInBounds_toArray, List.set_cons_zero, List.set_cons_succ, i64_w, i32_w]
            rfl
          exact norm_ (by simp only [putAll, Act.put, List.setIfInBounds_toArray, List.set_cons_zero, List.set_cons_succ]) (hCont ((.slice X0 N.length y0 : Value), (.slice X1 P.length y1 : Value), (.slice B0 N'.length d0 : Value), (.slice B1 P'.length d1 : Value), gb, wc6.heap.size, wb7.heap.size) _ ⟨(HSV _ HFA.out.now), HFA.out, ⟨B0, d0, B1, d1, rfl, rfl, HU.out⟩, HG.out, ⟨HNG.out, HNL.out, HLE.out, HHI.out, HGB.out⟩, HN.out, HB.out⟩)
      · skip
        refine box_step ?hg (N := 6) ?hd (cs := #[.slice none 0 0, .slice none 0 0]) (t := 42) ?hr ?_; (case hd => rfl); (case hg => rfl); (case hr => first | (go_simp; done) | (go_simp; rfl))
        intro gb hg_ wc8 hbox_ hb_
        have HNG : Aside0 (n_ ≤ gb) := ⟨by rw [hg_]; exact HN.out⟩
        replace HFA := Aside0.mk (HFA.out.below (fun k_ h_ => h_) HN.out hb_)
        replace HX := Aside0.mk (HX.out.below hb_)
        replace HN := Aside0.mk (Nat.le_trans HN.out hb_.size)
        replace HB := Aside0.mk (below_step HB.out hb_)
        have HG := Aside0.mk hbox_
        clear hbox_ hb_ hg_
        refine hK.out _ _ (HSV _ HFA.out.now) (fun hHeld => ?_)
        clear hK K
        refine norm_ (a' := ?_) ?_ ?_
        rotate_left
        · show Act.put _ (some 6) _ = _
          simp only [Act.put, List.setIfInBounds_toArray, List.set_cons_zero, List.set_cons_succ, i64_w, i32_w]
          rfl
        refine one_ (i := 3) (N := some 30) #[true, true, true, true, false, false, false, false, true, false, false] rfl rfl (one_of HT_.out (by kernel_rfl)) (by decide) (fun K hK => ?_)
        refine goes_ Try.func47 (by kernel_rfl) rfl #[.agg #[.int .i64 a, .int .i64 b, .string s]] (by rfl) rfl rfl (by (try simp only [List.map_toArray, List.map_cons, List.map_nil]); first | done | rfl) ?_
        refine (laws_toDeed.calls a b s a b s _ HA0.out).mono ?_
        rintro e_ wb9 ⟨rfl, hb_⟩
        refine ⟨_, rfl, ?_⟩
        replace HFA := Aside0.mk (HFA.out.below (fun k_ h_ => h_) HN.out hb_)
        replace HX := Aside0.mk (HX.out.below hb_)
        replace HG := Aside0.mk (blk_below (o := .cells #[.slice none 0 0, .slice none 0 0] 42 (0, 0)) HG.out hb_)
        replace HN := Aside0.mk (Nat.le_trans HN.out hb_.size)
        replace HB := Aside0.mk (below_step HB.out hb_)
        clear hb_
        refine hK.out _ _ (HSV _ HFA.out.now) (fun hHeld => ?_)
        clear hK K
        refine norm_ (a' := ?_) ?_ ?_
        rotate_left
        · show Act.put _ (some 30) _ = _
          simp only [Act.put, List.setIfInBounds_toArray, List.set_cons_zero, List.set_cons_succ, i64_w, i32_w]
          rfl
        refine one_ (i := 4) (N := some 31) #[true, true, true, true, true, false, false, false, true, false, false] rfl rfl (one_of HT_.out (by kernel_rfl)) (by decide) (fun K hK => ?_)
        have HNL := HN
        have HGL := Aside0.mk (blk_lt HG.out)
        refine goes_ Try.func46 (by kernel_rfl) rfl #[.agg #[.slice X0 N.length y0, .slice X1 P.length y1], .agg #[.int .i64 a, .int .i64 b, .string s]] (by rfl) rfl rfl (by (try simp only [List.map_toArray, List.map_cons, List.map_nil]); first | done | rfl) ?_
        refine (doS_c k HX.out HS0.out).mono ?_
        rintro e_ wb10 ⟨B0, d0, B1, d1, rfl, hd_, hb_⟩
        refine ⟨_, rfl, ?_⟩
        have hsz_ := hb_.size
        replace HFA := Aside0.mk (HFA.out.below (fun k_ h_ => h_) HN.out hb_)
        replace HG := Aside0.mk (blk_below (o := .cells #[.slice none 0 0, .slice none 0 0] 42 (0, 0)) HG.out hb_)
        replace HN := Aside0.mk (Nat.le_trans HN.out hb_.size)
        replace HB := Aside0.mk (below_step HB.out hb_)
        have HU := Aside0.mk (hd_)
        have HHI := Aside0.mk (Nat.le_refl wb10.heap.size)
        have HLE := Aside0.mk hsz_
        have HGB : Aside0 (gb < wb9.heap.size ∨ wb10.heap.size ≤ gb) := ⟨.inl HGL.out⟩
        clear hd_ hb_ hsz_
        refine hK.out _ _ (HSV _ HFA.out.now) (fun hHeld => ?_)
        clear hK K
        refine norm_ (a' := ?_) ?_ ?_
        rotate_left
        · show Act.put _ (some 31) _ = _
          simp only [Act.put, List.setIfInBounds_toArray, List.set_cons_zero, List.set_cons_succ, i64_w, i32_w]
          rfl
        refine pure_ (i := 5) (N := some 26) (v := ?_) (a' := ?_) #[true, true, true, true, true, true, false, false, true, false, false] rfl rfl (any_of HT_.out (by kernel_rfl)) (fun _ _ _ h => h) (Or.inl ⟨by rfl, ?_⟩) ?_ ?_
        rotate_left
        · intro w'
          go_simp
          with_reducible rfl
        rotate_left
        · simp only [Act.put, List.setIfInBounds_toArray, List.set_cons_zero, List.set_cons_succ, i64_w, i32_w]
          rfl
        refine pure_ (i := 6) (N := some 32) (v := ?_) (a' := ?_) #[true, true, true, true, true, true, true, false, true, false, false] rfl rfl (any_of HT_.out (by kernel_rfl)) (fun _ _ _ h => h) (Or.inl ⟨by rfl, ?_⟩) ?_ ?_
        rotate_left
        · intro w'
          go_simp
          with_reducible rfl
        rotate_left
        · simp only [Act.put, List.setIfInBounds_toArray, List.set_cons_zero, List.set_cons_succ, i64_w, i32_w]
          rfl
        refine pure_ (i := 7) (N := some 33) (v := ?_) (a' := ?_) #[true, true, true, true, true, true, true, true, true, false, false] rfl rfl (any_of HT_.out (by kernel_rfl)) (fun _ _ _ h => h) (Or.inl ⟨by rfl, ?_⟩) ?_ ?_
        rotate_left
        · intro w'
          go_simp
          with_reducible rfl
        rotate_left
        · simp only [Act.put, List.setIfInBounds_toArray, List.set_cons_zero, List.set_cons_succ, i64_w, i32_w]
          rfl
        exact norm_ (by simp only [putAll, Act.put, List.setIfInBounds_toArray, List.set_cons_zero, List.set_cons_succ]) (hCont ((.slice X0 N.length y0 : Value), (.slice X1 P.length y1 : Value), (.slice B0 N'.length d0 : Value), (.slice B1 P'.length d1 : Value), gb, wb9.heap.size, wb10.heap.size) _ ⟨(HSV _ HFA.out.now), HFA.out, ⟨B0, d0, B1, d1, rfl, rfl, HU.out⟩, HG.out, ⟨HNG.out, HNL.out, HLE.out, HHI.out, HGB.out⟩, HN.out, HB.out⟩)
    · skip
      refine box_step ?hg (N := 6) ?hd (cs := #[.slice none 0 0, .slice none 0 0]) (t := 42) ?hr ?_; (case hd => rfl); (case hg => rfl); (case hr => first | (go_simp; done) | (go_simp; rfl))
      intro gb hg_ wc11 hbox_ hb_
      have HNG : Aside0 (n_ ≤ gb) := ⟨by rw [hg_]; exact HN.out⟩
      replace HFA := Aside0.mk (HFA.out.below (fun k_ h_ => h_) HN.out hb_)
      replace HN := Aside0.mk (Nat.le_trans HN.out hb_.size)
      replace HB := Aside0.mk (below_step HB.out hb_)
      have HG := Aside0.mk hbox_
      clear hbox_ hb_ hg_
      refine hK.out _ _ (HSV _ HFA.out.now) (fun hHeld => ?_)
      clear hK K
      refine norm_ (a' := ?_) ?_ ?_
      rotate_left
      · show Act.put _ (some 6) _ = _
        simp only [Act.put, List.setIfInBounds_toArray, List.set_cons_zero, List.set_cons_succ, i64_w, i32_w]
        rfl
      refine one_ (i := 1) (N := some 28) #[true, true, true, false, false, false, false, false, true, false, false] rfl rfl (one_of HT_.out (by kernel_rfl)) (by decide) (fun K hK => ?_)
      refine goes_ Try.func33 (by kernel_rfl) rfl #[.agg #[.slice A0 l0.length c0, .slice A1 l1.length c1]] (by rfl) rfl rfl (by (try simp only [List.map_toArray, List.map_cons, List.map_nil]); first | done | rfl) ?_
      refine (toDesk_c k HB.out HR0.out HC0.out HR1.out HC1.out HT0.out).mono ?_
      rintro e_ wb12 ⟨X0, y0, X1, y1, rfl, hd_, hb_⟩
      refine ⟨_, rfl, ?_⟩
      replace HFA := Aside0.mk (HFA.out.below (fun k_ h_ => h_) HN.out hb_)
      replace HG := Aside0.mk (blk_below (o := .cells #[.slice none 0 0, .slice none 0 0] 42 (0, 0)) HG.out hb_)
      replace HN := Aside0.mk (Nat.le_trans HN.out hb_.size)
      replace HB := Aside0.mk (below_step HB.out hb_)
      have HX := Aside0.mk hd_.r
      clear hd_ hb_
      refine hK.out _ _ (HSV _ HFA.out.now) (fun hHeld => ?_)
      clear hK K
      refine norm_ (a' := ?_) ?_ ?_
      rotate_left
      · show Act.put _ (some 28) _ = _
        simp only [Act.put, List.setIfInBounds_toArray, List.set_cons_zero, List.set_cons_succ, i64_w, i32_w]
        rfl
      refine one_ (i := 3) (N := some 30) #[true, true, true, true, false, false, false, false, true, false, false] rfl rfl (one_of HT_.out (by kernel_rfl)) (by decide) (fun K hK => ?_)
      refine goes_ Try.func47 (by kernel_rfl) rfl #[.agg #[.int .i64 a, .int .i64 b, .string s]] (by rfl) rfl rfl (by (try simp only [List.map_toArray, List.map_cons, List.map_nil]); first | done | rfl) ?_
      refine (laws_toDeed.calls a b s a b s _ HA0.out).mono ?_
      rintro e_ wb13 ⟨rfl, hb_⟩
      refine ⟨_, rfl, ?_⟩
      replace HFA := Aside0.mk (HFA.out.below (fun k_ h_ => h_) HN.out hb_)
      replace HG := Aside0.mk (blk_below (o := .cells #[.slice none 0 0, .slice none 0 0] 42 (0, 0)) HG.out hb_)
      replace HX := Aside0.mk (HX.out.below hb_)
      replace HN := Aside0.mk (Nat.le_trans HN.out hb_.size)
      replace HB := Aside0.mk (below_step HB.out hb_)
      clear hb_
      refine hK.out _ _ (HSV _ HFA.out.now) (fun hHeld => ?_)
      clear hK K
      refine norm_ (a' := ?_) ?_ ?_
      rotate_left
      · show Act.put _ (some 30) _ = _
        simp only [Act.put, List.setIfInBounds_toArray, List.set_cons_zero, List.set_cons_succ, i64_w, i32_w]
        rfl
      refine one_ (i := 4) (N := some 31) #[true, true, true, true, true, false, false, false, true, false, false] rfl rfl (one_of HT_.out (by kernel_rfl)) (by decide) (fun K hK => ?_)
      have HNL := HN
      have HGL := Aside0.mk (blk_lt HG.out)
      refine goes_ Try.func46 (by kernel_rfl) rfl #[.agg #[.slice X0 N.length y0, .slice X1 P.length y1], .agg #[.int .i64 a, .int .i64 b, .string s]] (by rfl) rfl rfl (by (try simp only [List.map_toArray, List.map_cons, List.map_nil]); first | done | rfl) ?_
      refine (doS_c k HX.out HS0.out).mono ?_
      rintro e_ wb14 ⟨B0, d0, B1, d1, rfl, hd_, hb_⟩
      refine ⟨_, rfl, ?_⟩
      have hsz_ := hb_.size
      replace HFA := Aside0.mk (HFA.out.below (fun k_ h_ => h_) HN.out hb_)
      replace HG := Aside0.mk (blk_below (o := .cells #[.slice none 0 0, .slice none 0 0] 42 (0, 0)) HG.out hb_)
      replace HN := Aside0.mk (Nat.le_trans HN.out hb_.size)
      replace HB := Aside0.mk (below_step HB.out hb_)
      have HU := Aside0.mk (hd_)
      have HHI := Aside0.mk (Nat.le_refl wb14.heap.size)
      have HLE := Aside0.mk hsz_
      have HGB : Aside0 (gb < wb13.heap.size ∨ wb14.heap.size ≤ gb) := ⟨.inl HGL.out⟩
      clear hd_ hb_ hsz_
      refine hK.out _ _ (HSV _ HFA.out.now) (fun hHeld => ?_)
      clear hK K
      refine norm_ (a' := ?_) ?_ ?_
      rotate_left
      · show Act.put _ (some 31) _ = _
        simp only [Act.put, List.setIfInBounds_toArray, List.set_cons_zero, List.set_cons_succ, i64_w, i32_w]
        rfl
      refine pure_ (i := 5) (N := some 26) (v := ?_) (a' := ?_) #[true, true, true, true, true, true, false, false, true, false, false] rfl rfl (any_of HT_.out (by kernel_rfl)) (fun _ _ _ h => h) (Or.inl ⟨by rfl, ?_⟩) ?_ ?_
      rotate_left
      · intro w'
        go_simp
        with_reducible rfl
      rotate_left
      · simp only [Act.put, List.setIfInBounds_toArray, List.set_cons_zero, List.set_cons_succ, i64_w, i32_w]
        rfl
      refine pure_ (i := 6) (N := some 32) (v := ?_) (a' := ?_) #[true, true, true, true, true, true, true, false, true, false, false] rfl rfl (any_of HT_.out (by kernel_rfl)) (fun _ _ _ h => h) (Or.inl ⟨by rfl, ?_⟩) ?_ ?_
      rotate_left
      · intro w'
        go_simp
        with_reducible rfl
      rotate_left
      · simp only [Act.put, List.setIfInBounds_toArray, List.set_cons_zero, List.set_cons_succ, i64_w, i32_w]
        rfl
      refine pure_ (i := 7) (N := some 33) (v := ?_) (a' := ?_) #[true, true, true, true, true, true, true, true, true, false, false] rfl rfl (any_of HT_.out (by kernel_rfl)) (fun _ _ _ h => h) (Or.inl ⟨by rfl, ?_⟩) ?_ ?_
      rotate_left
      · intro w'
        go_simp
        with_reducible rfl
      rotate_left
      · simp only [Act.put, List.setIfInBounds_toArray, List.set_cons_zero, List.set_cons_succ, i64_w, i32_w]
        rfl
      exact norm_ (by simp only [putAll, Act.put, List.setIfInBounds_toArray, List.set_cons_zero, List.set_cons_succ]) (hCont ((.slice X0 N.length y0 : Value), (.slice X1 P.length y1 : Value), (.slice B0 N'.length d0 : Value), (.slice B1 P'.length d1 : Value), gb, wb13.heap.size, wb14.heap.size) _ ⟨(HSV _ HFA.out.now), HFA.out, ⟨B0, d0, B1, d1, rfl, rfl, HU.out⟩, HG.out, ⟨HNG.out, HNL.out, HLE.out, HHI.out, HGB.out⟩, HN.out, HB.out⟩)
  clear HFA HN HB hHeld
  rintro ⟨v0_, v1_, u0_, u1_, gb8, lo8, hi8⟩ wj15 ⟨hHeld, hHFA_, ⟨B80, d80, B81, d81, eu0_, eu1_, hu_⟩, hg_, ⟨q1_, q2_, q3_, q4_, q5_⟩, q6_, hb_⟩
  simp only at eu0_ eu1_ hu_ hg_ q1_ q2_ q3_ q4_ q5_
  subst eu0_ eu1_
  have HFA := Aside0.mk hHFA_
  have HU8 := Aside0.mk hu_
  have HG8 := Aside0.mk hg_
  have HN := Aside0.mk q6_
  have HB := Aside0.mk hb_
  have QN8 := Aside0.mk (And.intro q1_ (And.intro q2_ (And.intro q3_ (And.intro q4_ q5_))))
  clear hHFA_ hu_ hg_ q1_ q2_ q3_ q4_ q5_ q6_ hb_
  refine norm_ (a' := ?_) ?_ ?_
  rotate_left
  · simp only [putAll, Act.put, List.setIfInBounds_toArray, List.set_cons_zero, List.set_cons_succ]
    rfl
  refine one_ (i := 9) (N := none) #[true, true, true, true, true, true, true, true, true, true, false] rfl rfl (one_of HT_.out (by kernel_rfl)) (by decide) (fun K hK => ?_)
  have hs0_ : wj15.cell? ⟨gb8, 0, none⟩ = some (.slice none 0 0) := (blk_cell HG8.out 0).trans rfl
  have hfs0_ := blk_frozen HG8.out 0
  have hs1_ : wj15.cell? ⟨gb8, 1, none⟩ = some (.slice none 0 0) := (blk_cell HG8.out 1).trans rfl
  have hfs1_ := blk_frozen HG8.out 1
  have hlt_ := blk_lt HG8.out
  have zHFA := Aside0.mk (HFA.out.step (W' := ((wj15.setCell ⟨gb8, 0, none⟩ (.slice B80 N'.length d80)).setCell ⟨gb8, 1, none⟩ (.slice B81 P'.length d81))) (fun k_ h_ => two_far _ _ k_ (by have z_ := QN8.out.1; have y_ := (h_); omega)))
  have zHU := Aside0.mk (HU8.out.step (W' := ((wj15.setCell ⟨gb8, 0, none⟩ (.slice B80 N'.length d80)).setCell ⟨gb8, 1, none⟩ (.slice B81 P'.length d81))) (fun k_ h_ => two_far _ _ k_ (by have z_ := QN8.out.2.2.2.2; omega)))
  have zHG := Aside0.mk (two_box (u := .slice B80 N'.length d80) (v := .slice B81 P'.length d81) HG8.out)
  have zHB : Aside0 (Below w.heap.size w ((wj15.setCell ⟨gb8, 0, none⟩ (.slice B80 N'.length d80)).setCell ⟨gb8, 1, none⟩ (.slice B81 P'.length d81))) := ⟨below_set (below_set HB.out (Nat.le_trans HWN.out QN8.out.1)) (Nat.le_trans HWN.out QN8.out.1)⟩
  have zHN : Aside0 (n_ ≤ ((wj15.setCell ⟨gb8, 0, none⟩ (.slice B80 N'.length d80)).setCell ⟨gb8, 1, none⟩ (.slice B81 P'.length d81)).heap.size) := ⟨by rw [two_size]; exact HN.out⟩
  have zHH : Aside0 (hi8 ≤ ((wj15.setCell ⟨gb8, 0, none⟩ (.slice B80 N'.length d80)).setCell ⟨gb8, 1, none⟩ (.slice B81 P'.length d81)).heap.size ∧ gb8 < ((wj15.setCell ⟨gb8, 0, none⟩ (.slice B80 N'.length d80)).setCell ⟨gb8, 1, none⟩ (.slice B81 P'.length d81)).heap.size) := ⟨by rw [two_size]; exact ⟨QN8.out.2.2.2.1, hlt_⟩⟩
  refine skip_ (w1 := ?_) (by rfl) rfl ?_ ?_
  rotate_left
  · go_simp
    rfl
  refine hK.out _ _ (HSV _ zHFA.out.now) (fun hHeld => ?_)
  clear hK K
  refine pure_ (i := 10) (N := some 7) (v := ?_) (a' := ?_) #[true, true, true, true, true, true, true, true, true, true, true] rfl rfl (any_of HT_.out (by kernel_rfl)) (fun _ _ _ h => h) (Or.inl ⟨by rfl, ?_⟩) ?_ ?_
  rotate_left
  · intro w'
    go_simp
    with_reducible rfl
  rotate_left
  · simp only [Act.put, List.setIfInBounds_toArray, List.set_cons_zero, List.set_cons_succ, i64_w, i32_w]
    rfl
  refine done_ (done_of HT_.out (by kernel_rfl)) ?_
  clear HFA HU8 HG8 HB HN hHeld hs0_ hs1_ hfs0_ hfs1_ hlt_ HT_ HW_
  generalize ((wj15.setCell ⟨gb8, 0, none⟩ (.slice B80 N'.length d80)).setCell ⟨gb8, 1, none⟩ (.slice B81 P'.length d81)) = wn8 at zHFA zHU zHG zHB zHN zHH ⊢
  have HFA := zHFA
  have HU8 := zHU
  have HG8 := zHG
  have HB := zHB
  have HN := zHN
  have HH8 := zHH
  clear zHFA zHU zHG zHB zHN zHH
  obtain ⟨n2, hn2⟩ : ∃ n, n = wn8.heap.size := ⟨_, rfl⟩
  obtain ⟨PPB, HFB, hPB⟩ : ∃ PP : World → Prop, Aside0 (Fo (fun k_ => k_ < n2) PP wn8) ∧ (∀ V, PP V → PPA V ∧ V.heap[gb8]? = some (.cells #[.slice B80 N'.length d80, .slice B81 P'.length d81] 42 (0, 0)) ∧ Dr B80 d80 B81 d81 N'.length P'.length N' P' V) := ⟨_, ⟨(HFA.out.mono (fun k_ h_ => by rw [hn2]; exact Nat.lt_of_lt_of_le h_ HN.out)).and ((Fo_box HG8.out (by rw [hn2]; exact HH8.out.2)).and (HU8.out.mono (fun k_ h_ => by rw [hn2]; exact Nat.lt_of_lt_of_le h_.2 HH8.out.1)))⟩, fun _ h => h⟩
  have HN2 : Aside0 (n2 ≤ wn8.heap.size) := ⟨Nat.le_of_eq hn2⟩
  have HW2 : Aside0 (w.heap.size ≤ n2) := ⟨by rw [hn2]; exact HB.out.size⟩
  clear HFA HU8 HG8 HN HH8 QN8 HWN HSV
  have hca_0 : wn8.cell? ⟨g2, 0, none⟩ = some (.slice A0 l0.length c0) := (blk_cell (hPA _ (hPB _ HFB.out.now).1).1 0).trans rfl
  have hfa_0 := blk_frozen (hPA _ (hPB _ HFB.out.now).1).1 0
  have hca_1 : wn8.cell? ⟨g2, 1, none⟩ = some (.slice A1 l1.length c1) := (blk_cell (hPA _ (hPB _ HFB.out.now).1).1 1).trans rfl
  have hfa_1 := blk_frozen (hPA _ (hPB _ HFB.out.now).1).1 1
  go_wp2_with (first | ((with_reducible refine gate_callee (f := 33) rfl ?_); refine goesL_ (some 35) rfl rfl Try.func33 (by kernel_rfl) rfl #[.agg #[.slice A0 l0.length c0, .slice A1 l1.length c1]] rfl (by (try simp only [List.map_toArray, List.map_cons, List.map_nil]); first | done | rfl) ?_; (refine (toDesk_c k HB.out HR0.out HC0.out HR1.out HC1.out HT0.out).mono ?_); rintro e_ w9 ⟨X0, y0, X1, y1, rfl, hd_, hb_⟩; refine ⟨_, rfl, ?_⟩; (try clear hca_0 hfa_0 hca_1 hfa_1); have HD9 := Aside0.mk (Fo_dk (ok := fun k_ => wn8.heap.size ≤ k_ ∧ k_ < w9.heap.size) hd_ (fun k_ h1_ h2_ => ⟨h1_, h2_⟩)); have HL9 := Aside0.mk hb_.size; have n0_ := Aside0.mk (HFB.out.below (fun k_ h_ => h_) HN2.out hb_); have n1_ := Aside0.mk (below_step HB.out hb_); clear HFB HB; have HFB := n0_; have HB := n1_; clear n0_ n1_ hd_ hb_) | ((with_reducible refine gate_dst (N := 8) rfl ?_); refine box_event ?hg (N := 8) ?hd (cs := #[.slice none 0 0, .slice none 0 0]) (t := 42) ?hr ?_; (case hd => rfl); (case hg => rfl); (case hr => first | (go_simp; done) | (go_simp; rfl)); intro gb9 hg_ w10 hbox_ hb_; have HG9 := Aside0.mk hbox_; have HQ9 := Aside0.mk hg_; have n0_ := Aside0.mk (HFB.out.below (fun k_ h_ => h_) (Nat.le_trans HN2.out HL9.out) hb_); have n1_ := Aside0.mk (below_step HB.out hb_); have n2_ := Aside0.mk (HD9.out.below (fun k_ h_ => h_.2) (Nat.le_refl _) hb_); clear HFB HB HD9; have HFB := n0_; have HB := n1_; have HD9 := n2_; clear n0_ n1_ n2_ hbox_ hg_ hb_; have hcc_0 : w10.cell? ⟨gb9, 0, none⟩ = some (.slice none 0 0) := (blk_cell HG9.out 0).trans rfl; have hfc_0 := blk_frozen HG9.out 0; have hcc_1 : w10.cell? ⟨gb9, 1, none⟩ = some (.slice none 0 0) := (blk_cell HG9.out 1).trans rfl; have hfc_1 := blk_frozen HG9.out 1))
  have HNG9 : Aside0 (n2 ≤ gb9) := ⟨by rw [HQ9.out]; exact Nat.le_trans HN2.out HL9.out⟩
  have zHFB := Aside0.mk (HFB.out.step (W' := ((w10.setCell ⟨gb9, 0, none⟩ (.slice X0 N.length y0)).setCell ⟨gb9, 1, none⟩ (.slice X1 P.length y1))) (fun k_ h_ => two_far _ _ k_ (by have z_ := HNG9.out; omega)))
  have zHD9 := Aside0.mk (HD9.out.step (W' := ((w10.setCell ⟨gb9, 0, none⟩ (.slice X0 N.length y0)).setCell ⟨gb9, 1, none⟩ (.slice X1 P.length y1))) (fun k_ h_ => two_far _ _ k_ (by have z_ := HQ9.out; omega)))
  have zHG9 := Aside0.mk (two_box (u := .slice X0 N.length y0) (v := .slice X1 P.length y1) HG9.out)
  have zHB : Aside0 (Below w.heap.size w ((w10.setCell ⟨gb9, 0, none⟩ (.slice X0 N.length y0)).setCell ⟨gb9, 1, none⟩ (.slice X1 P.length y1))) := ⟨below_set (below_set HB.out (Nat.le_trans HW2.out HNG9.out)) (Nat.le_trans HW2.out HNG9.out)⟩
  have zHN : Aside0 (gb9 < ((w10.setCell ⟨gb9, 0, none⟩ (.slice X0 N.length y0)).setCell ⟨gb9, 1, none⟩ (.slice X1 P.length y1)).heap.size ∧ w9.heap.size ≤ ((w10.setCell ⟨gb9, 0, none⟩ (.slice X0 N.length y0)).setCell ⟨gb9, 1, none⟩ (.slice X1 P.length y1)).heap.size) := ⟨by rw [two_size]; have z_ := blk_lt HG9.out; have y_ := HQ9.out; omega⟩
  clear HFB HD9 HG9 HB
  (try clear hcc_0 hfc_0 hcc_1 hfc_1)
  generalize ((w10.setCell ⟨gb9, 0, none⟩ (.slice X0 N.length y0)).setCell ⟨gb9, 1, none⟩ (.slice X1 P.length y1)) = wn9 at zHFB zHD9 zHG9 zHB zHN ⊢
  have HFB := zHFB; have HD9 := zHD9; have HG9 := zHG9; have HB := zHB; clear zHFB zHD9 zHG9 zHB
  obtain ⟨n3, hn3⟩ : ∃ n, n = wn9.heap.size := ⟨_, rfl⟩
  have HHX : Aside0 (w9.heap.size ≤ n3) := ⟨by rw [hn3]; exact zHN.out.2⟩
  have HNN : Aside0 (n2 ≤ n3) := ⟨by have z_ := zHN.out.1; have y_ := HNG9.out; omega⟩
  obtain ⟨PPX, HFX, hPX⟩ : ∃ PP : World → Prop, Aside0 (Fo (fun k_ => n2 ≤ k_ ∧ k_ < n3) PP wn9) ∧ (∀ V, PP V → V.heap[gb9]? = some (.cells #[.slice X0 N.length y0, .slice X1 P.length y1] 42 (0, 0)) ∧ Dk w.heap.size wn8.heap.size w9.heap.size (.slice X0 N.length y0) (.slice X1 P.length y1) N P V) := ⟨_, ⟨(Fo_box HG9.out ⟨HNG9.out, by rw [hn3]; exact zHN.out.1⟩).and (HD9.out.mono (fun k_ h_ => ⟨by rw [hn2]; exact h_.1, Nat.lt_of_lt_of_le h_.2 HHX.out⟩))⟩, fun _ h => h⟩
  have HWN : Aside0 (w.heap.size ≤ n3) := ⟨Nat.le_trans HW2.out HNN.out⟩
  have HN : Aside0 (n3 ≤ wn9.heap.size) := ⟨Nat.le_of_eq hn3⟩
  clear HD9 HG9 zHN HN2 HL9 hn3
  have HSV : ∀ w', PPB w' → PPX w' → w'.cell? ⟨gb9, 0, none⟩ = some (.slice X0 N.length y0) ∧ w'.cell? ⟨gb9, 1, none⟩ = some (.slice X1 P.length y1) ∧ w'.cell? ⟨g3, 0, none⟩ = some (.int .i64 a) ∧ w'.cell? ⟨g3, 1, none⟩ = some (.int .i64 b) ∧ w'.cell? ⟨g3, 2, none⟩ = some (.string s) := fun w' h_ x_ => ⟨(blk_cell (hPX w' x_).1 0).trans rfl, (blk_cell (hPX w' x_).1 1).trans rfl, (blk_cell (hPA w' (hPB w' h_).1).2 0).trans rfl, (blk_cell (hPA w' (hPB w' h_).1).2 1).trans rfl, (blk_cell (hPA w' (hPB w' h_).1).2 2).trans rfl⟩
  replace HFB := Aside0.mk (HFB.out.step (W' := wn9.drew) (fun _ _ => rfl))
  replace HFX := Aside0.mk (HFX.out.step (W' := wn9.drew) (fun _ _ => rfl))
  replace HN : Aside0 (n3 ≤ wn9.drew.heap.size) := ⟨HN.out⟩
  replace HB := Aside0.mk (below_drew1 HB.out)
  refine start_ (n := 10) (S := fun w' => w'.cell? ⟨gb9, 0, none⟩ = some (.slice X0 N.length y0) ∧ w'.cell? ⟨gb9, 1, none⟩ = some (.slice X1 P.length y1) ∧ w'.cell? ⟨g3, 0, none⟩ = some (.int .i64 a) ∧ w'.cell? ⟨g3, 1, none⟩ = some (.int .i64 b) ∧ w'.cell? ⟨g3, 2, none⟩ = some (.string s)) (ds := []) #[false, false, false, false, false, false, false, false, false, false] (by kernel_rfl) rfl rfl (HSV _ HFB.out.now HFX.out.now) (fun hHeld => ?_); refine with_tabW laws_FnExactDeskDo.tab10 laws_FnExactDeskDo.bits10 (fun HT_ HW_ => ?_)
  generalize wn9.drew = wa16 at HFB HFX HN HB hHeld ⊢
  refine take_ (i := 0) (N := some 37) (v := ?_) (a' := ?_) #[true, false, false, false, false, false, false, false, false, false] rfl rfl (take_ofW HT_.out HW_.out (by kernel_rfl)) (fun _ _ _ h => h) (Or.inl ⟨by rfl, ?_⟩) hHeld ?_ ?_
  rotate_left
  · rintro w' ⟨s0, s1, s2, s3, s4⟩
    go_simp
    with_reducible rfl
  rotate_left
  · simp only [Act.put, List.setIfInBounds_toArray, List.set_cons_zero, List.set_cons_succ, i64_w, i32_w]
    rfl
  refine take_ (i := 1) (N := some 38) (v := ?_) (a' := ?_) #[true, true, false, false, false, false, false, false, false, false] rfl rfl (take_ofW HT_.out HW_.out (by kernel_rfl)) (fun _ _ _ h => h) (Or.inl ⟨by rfl, ?_⟩) hHeld ?_ ?_
  rotate_left
  · rintro w' ⟨s0, s1, s2, s3, s4⟩
    go_simp
    with_reducible rfl
  rotate_left
  · simp only [Act.put, List.setIfInBounds_toArray, List.set_cons_zero, List.set_cons_succ, i64_w, i32_w]
    rfl
  refine join_ (σ := Value × Value × Value × Value × Nat × Nat × Nat) 2 #[true, true, true, true, true, true, true, true, false, false] (fun s_ => [(39, .agg #[.int .i64 a, .int .i64 b, .string s]), (40, .tuple #[.agg #[s_.2.2.1, s_.2.2.2.1], .bool ok]), (9, .pointer (some ⟨s_.2.2.2.2.1, 0, none⟩)), (36, .tuple #[.agg #[s_.2.2.1, s_.2.2.2.1], .bool ok]), (41, .agg #[s_.2.2.1, s_.2.2.2.1]), (42, .bool ok)]) (fun s_ w' => (w'.cell? ⟨gb9, 0, none⟩ = some (.slice X0 N.length y0) ∧ w'.cell? ⟨gb9, 1, none⟩ = some (.slice X1 P.length y1) ∧ w'.cell? ⟨g3, 0, none⟩ = some (.int .i64 a) ∧ w'.cell? ⟨g3, 1, none⟩ = some (.int .i64 b) ∧ w'.cell? ⟨g3, 2, none⟩ = some (.string s)) ∧ Fo (fun k_ => k_ < n2) PPB w' ∧ Fo (fun k_ => n2 ≤ k_ ∧ k_ < n3) PPX w' ∧  (∃ (B0 : Option Addr) (d0 : Nat) (B1 : Option Addr) (d1 : Nat), s_.2.2.1 = .slice B0 N'.length d0 ∧ s_.2.2.2.1 = .slice B1 P'.length d1 ∧ Fo (fun k_ => s_.2.2.2.2.2.1 ≤ k_ ∧ k_ < s_.2.2.2.2.2.2) (Dk w.heap.size s_.2.2.2.2.2.1 s_.2.2.2.2.2.2 (.slice B0 N'.length d0) (.slice B1 P'.length d1) N' P') w') ∧ w'.heap[s_.2.2.2.2.1]? = some (.cells #[.slice none 0 0, .slice none 0 0] 42 (0, 0)) ∧ (n3 ≤ s_.2.2.2.2.1 ∧ n3 ≤ s_.2.2.2.2.2.1 ∧ s_.2.2.2.2.2.1 ≤ s_.2.2.2.2.2.2 ∧ s_.2.2.2.2.2.2 ≤ w'.heap.size ∧ (s_.2.2.2.2.1 < s_.2.2.2.2.2.1 ∨ s_.2.2.2.2.2.2 ≤ s_.2.2.2.2.1)) ∧ n3 ≤ w'.heap.size ∧ Below w.heap.size w w') ?_ ?_
  rotate_left
  · intro hCont
    refine two_ (i := 2) (j := 7) (Ni := some 39) (Nj := some 9) #[true, true, true, false, false, false, false, false, false, false] #[true, true, false, false, false, false, false, true, false, false] rfl rfl rfl rfl (two_of HT_.out (by kernel_rfl)) (by decide) (by decide) (fun K hK => ?_) (fun K hK => ?_)
    · skip
      refine goes_ Try.func47 (by kernel_rfl) rfl #[.agg #[.int .i64 a, .int .i64 b, .string s]] (by rfl) rfl rfl (by (try simp only [List.map_toArray, List.map_cons, List.map_nil]); first | done | rfl) ?_
      refine (laws_toDeed.calls a b s a b s _ HA0.out).mono ?_
      rintro e_ wb17 ⟨rfl, hb_⟩
      refine ⟨_, rfl, ?_⟩
      replace HFB := Aside0.mk (HFB.out.below (fun k_ h_ => Nat.lt_of_lt_of_le h_ HNN.out) HN.out hb_)
      replace HFX := Aside0.mk (HFX.out.below (fun k_ h_ => h_.2) HN.out hb_)
      replace HN := Aside0.mk (Nat.le_trans HN.out hb_.size)
      replace HB := Aside0.mk (below_step HB.out hb_)
      clear hb_
      refine hK.out _ _ (HSV _ HFB.out.now HFX.out.now) (fun hHeld => ?_)
      clear hK K
      refine norm_ (a' := ?_) ?_ ?_
      rotate_left
      · show Act.put _ (some 39) _ = _
        simp only [Act.put, List.setIfInBounds_toArray, List.set_cons_zero, List.set_cons_succ, i64_w, i32_w]
        rfl
      refine two_ (i := 3) (j := 7) (Ni := some 40) (Nj := some 9) #[true, true, true, true, false, false, false, false, false, false] #[true, true, true, false, false, false, false, true, false, false] rfl rfl rfl rfl (two_of HT_.out (by kernel_rfl)) (by decide) (by decide) (fun K hK => ?_) (fun K hK => ?_)
      · skip
        have HNL := HN
        refine goes_ Try.func48 (by kernel_rfl) rfl #[.agg #[.slice X0 N.length y0, .slice X1 P.length y1], .agg #[.int .i64 a, .int .i64 b, .string s]] (by rfl) rfl rfl (by (try simp only [List.map_toArray, List.map_cons, List.map_nil]); first | done | rfl) ?_
        refine (doI_c k HB.out.size (hPX _ HFX.out.now).2.r HI0.out).mono ?_
        rintro e_ wb18 ⟨B0, d0, B1, d1, rfl, hd_, hb_⟩
        refine ⟨_, rfl, ?_⟩
        have hsz_ := hb_.size
        replace HFB := Aside0.mk (HFB.out.below (fun k_ h_ => Nat.lt_of_lt_of_le h_ HNN.out) HN.out hb_)
        replace HFX := Aside0.mk (HFX.out.below (fun k_ h_ => h_.2) HN.out hb_)
        replace HN := Aside0.mk (Nat.le_trans HN.out hb_.size)
        replace HB := Aside0.mk (below_step HB.out hb_)
        have HU := Aside0.mk (Fo_dk (ok := fun k_ => wb17.heap.size ≤ k_ ∧ k_ < wb18.heap.size) hd_ (fun k_ h1_ h2_ => ⟨h1_, h2_⟩))
        have HHI := Aside0.mk (Nat.le_refl wb18.heap.size)
        have HLE := Aside0.mk hsz_
        clear hd_ hb_ hsz_
        refine hK.out _ _ (HSV _ HFB.out.now HFX.out.now) (fun hHeld => ?_)
        clear hK K
        refine norm_ (a' := ?_) ?_ ?_
        rotate_left
        · show Act.put _ (some 40) _ = _
          simp only [Act.put, List.setIfInBounds_toArray, List.set_cons_zero, List.set_cons_succ, i64_w, i32_w]
          rfl
        refine pure_ (i := 4) (N := some 36) (v := ?_) (a' := ?_) #[true, true, true, true, true, false, false, false, false, false] rfl rfl (any_of HT_.out (by kernel_rfl)) (fun _ _ _ h => h) (Or.inl ⟨by rfl, ?_⟩) ?_ ?_
        rotate_left
        · intro w'
          go_simp
          with_reducible rfl
        rotate_left
        · simp only [Act.put, List.setIfInBounds_toArray, List.set_cons_zero, List.set_cons_succ, i64_w, i32_w]
          rfl
        refine pure_ (i := 5) (N := some 41) (v := ?_) (a' := ?_) #[true, true, true, true, true, true, false, false, false, false] rfl rfl (any_of HT_.out (by kernel_rfl)) (fun _ _ _ h => h) (Or.inl ⟨by rfl, ?_⟩) ?_ ?_
        rotate_left
        · intro w'
          go_simp
          with_reducible rfl
        rotate_left
        · simp only [Act.put, List.setIfInBounds_toArray, List.set_cons_zero, List.set_cons_succ, i64_w, i32_w]
          rfl
        refine pure_ (i := 6) (N := some 42) (v := ?_) (a' := ?_) #[true, true, true, true, true, true, true, false, false, false] rfl rfl (any_of HT_.out (by kernel_rfl)) (fun _ _ _ h => h) (Or.inl ⟨by rfl, ?_⟩) ?_ ?_
        rotate_left
        · intro w'
          go_simp
          with_reducible rfl
        rotate_left
        · simp only [Act.put, List.setIfInBounds_toArray, List.set_cons_zero, List.set_cons_succ, i64_w, i32_w]
          rfl
        refine one_ (i := 7) (N := some 9) #[true, true, true, true, true, true, true, true, false, false] rfl rfl (one_of HT_.out (by kernel_rfl)) (by decide) (fun K hK => ?_)
        refine box_step ?hg (N := 9) ?hd (cs := #[.slice none 0 0, .slice none 0 0]) (t := 42) ?hr ?_; (case hd => rfl); (case hg => rfl); (case hr => first | (go_simp; done) | (go_simp; rfl))
        intro gb hg_ wc19 hbox_ hb_
        have HNG : Aside0 (n3 ≤ gb) := ⟨by rw [hg_]; exact HN.out⟩
        have HGB : Aside0 (gb < wb17.heap.size ∨ wb18.heap.size ≤ gb) := ⟨.inr (by rw [hg_]; exact HHI.out)⟩
        replace HFB := Aside0.mk (HFB.out.below (fun k_ h_ => Nat.lt_of_lt_of_le h_ HNN.out) HN.out hb_)
        replace HFX := Aside0.mk (HFX.out.below (fun k_ h_ => h_.2) HN.out hb_)
        replace HU := Aside0.mk (HU.out.below (fun k_ h_ => h_.2) HHI.out hb_)
        replace HHI := Aside0.mk (Nat.le_trans HHI.out hb_.size)
        replace HN := Aside0.mk (Nat.le_trans HN.out hb_.size)
        replace HB := Aside0.mk (below_step HB.out hb_)
        have HG := Aside0.mk hbox_
        clear hbox_ hb_ hg_
        refine hK.out _ _ (HSV _ HFB.out.now HFX.out.now) (fun hHeld => ?_)
        clear hK K
        refine norm_ (a' := ?_) ?_ ?_
        rotate_left
        · show Act.put _ (some 9) _ = _
          simp only [Act.put, List.setIfInBounds_toArray, List.set_cons_zero, List.set_cons_succ, i64_w, i32_w]
          rfl
        exact norm_ (by simp only [putAll, Act.put, List.setIfInBounds_toArray, List.set_cons_zero, List.set_cons_succ]) (hCont (undef, undef, (.slice B0 N'.length d0 : Value), (.slice B1 P'.length d1 : Value), gb, wb17.heap.size, wb18.heap.size) _ ⟨(HSV _ HFB.out.now HFX.out.now), HFB.out, HFX.out, ⟨B0, d0, B1, d1, rfl, rfl, HU.out⟩, HG.out, ⟨HNG.out, HNL.out, HLE.out, HHI.out, HGB.out⟩, HN.out, HB.out⟩)
      · skip
        refine box_step ?hg (N := 9) ?hd (cs := #[.slice none 0 0, .slice none 0 0]) (t := 42) ?hr ?_; (case hd => rfl); (case hg => rfl); (case hr => first | (go_simp; done) | (go_simp; rfl))
        intro gb hg_ wc20 hbox_ hb_
        have HNG : Aside0 (n3 ≤ gb) := ⟨by rw [hg_]; exact HN.out⟩
        replace HFB := Aside0.mk (HFB.out.below (fun k_ h_ => Nat.lt_of_lt_of_le h_ HNN.out) HN.out hb_)
        replace HFX := Aside0.mk (HFX.out.below (fun k_ h_ => h_.2) HN.out hb_)
        replace HN := Aside0.mk (Nat.le_trans HN.out hb_.size)
        replace HB := Aside0.mk (below_step HB.out hb_)
        have HG := Aside0.mk hbox_
        clear hbox_ hb_ hg_
        refine hK.out _ _ (HSV _ HFB.out.now HFX.out.now) (fun hHeld => ?_)
        clear hK K
        refine norm_ (a' := ?_) ?_ ?_
        rotate_left
        · show Act.put _ (some 9) _ = _
          simp only [Act.put, List.setIfInBounds_toArray, List.set_cons_zero, List.set_cons_succ, i64_w, i32_w]
          rfl
        refine one_ (i := 3) (N := some 40) #[true, true, true, true, false, false, false, true, false, false] rfl rfl (one_of HT_.out (by kernel_rfl)) (by decide) (fun K hK => ?_)
        have HNL := HN
        have HGL := Aside0.mk (blk_lt HG.out)
        refine goes_ Try.func48 (by kernel_rfl) rfl #[.agg #[.slice X0 N.length y0, .slice X1 P.length y1], .agg #[.int .i64 a, .int .i64 b, .string s]] (by rfl) rfl rfl (by (try simp only [List.map_toArray, List.map_cons, List.map_nil]); first | done | rfl) ?_
        refine (doI_c k HB.out.size (hPX _ HFX.out.now).2.r HI0.out).mono ?_
        rintro e_ wb21 ⟨B0, d0, B1, d1, rfl, hd_, hb_⟩
        refine ⟨_, rfl, ?_⟩
        have hsz_ := hb_.size
        replace HFB := Aside0.mk (HFB.out.below (fun k_ h_ => Nat.lt_of_lt_of_le h_ HNN.out) HN.out hb_)
        replace HFX := Aside0.mk (HFX.out.below (fun k_ h_ => h_.2) HN.out hb_)
        replace HG := Aside0.mk (blk_below (o := .cells #[.slice none 0 0, .slice none 0 0] 42 (0, 0)) HG.out hb_)
        replace HN := Aside0.mk (Nat.le_trans HN.out hb_.size)
        replace HB := Aside0.mk (below_step HB.out hb_)
        have HU := Aside0.mk (Fo_dk (ok := fun k_ => wc20.heap.size ≤ k_ ∧ k_ < wb21.heap.size) hd_ (fun k_ h1_ h2_ => ⟨h1_, h2_⟩))
        have HHI := Aside0.mk (Nat.le_refl wb21.heap.size)
        have HLE := Aside0.mk hsz_
        have HGB : Aside0 (gb < wc20.heap.size ∨ wb21.heap.size ≤ gb) := ⟨.inl HGL.out⟩
        clear hd_ hb_ hsz_
        refine hK.out _ _ (HSV _ HFB.out.now HFX.out.now) (fun hHeld => ?_)
        clear hK K
        refine norm_ (a' := ?_) ?_ ?_
        rotate_left
        · show Act.put _ (some 40) _ = _
          simp only [Act.put, List.setIfInBounds_toArray, List.set_cons_zero, List.set_cons_succ, i64_w, i32_w]
          rfl
        refine pure_ (i := 4) (N := some 36) (v := ?_) (a' := ?_) #[true, true, true, true, true, false, false, true, false, false] rfl rfl (any_of HT_.out (by kernel_rfl)) (fun _ _ _ h => h) (Or.inl ⟨by rfl, ?_⟩) ?_ ?_
        rotate_left
        · intro w'
          go_simp
          with_reducible rfl
        rotate_left
        · simp only [Act.put, List.setIfInBounds_toArray, List.set_cons_zero, List.set_cons_succ, i64_w, i32_w]
          rfl
        refine pure_ (i := 5) (N := some 41) (v := ?_) (a' := ?_) #[true, true, true, true, true, true, false, true, false, false] rfl rfl (any_of HT_.out (by kernel_rfl)) (fun _ _ _ h => h) (Or.inl ⟨by rfl, ?_⟩) ?_ ?_
        rotate_left
        · intro w'
          go_simp
          with_reducible rfl
        rotate_left
        · simp only [Act.put, List.setIfInBounds_toArray, List.set_cons_zero, List.set_cons_succ, i64_w, i32_w]
          rfl
        refine pure_ (i := 6) (N := some 42) (v := ?_) (a' := ?_) #[true, true, true, true, true, true, true, true, false, false] rfl rfl (any_of HT_.out (by kernel_rfl)) (fun _ _ _ h => h) (Or.inl ⟨by rfl, ?_⟩) ?_ ?_
        rotate_left
        · intro w'
          go_simp
          with_reducible rfl
        rotate_left
        · simp only [Act.put, List.setIfInBounds_toArray, List.set_cons_zero, List.set_cons_succ, i64_w, i32_w]
          rfl
        exact norm_ (by simp only [putAll, Act.put, List.setIfInBounds_toArray, List.set_cons_zero, List.set_cons_succ]) (hCont (undef, undef, (.slice B0 N'.length d0 : Value), (.slice B1 P'.length d1 : Value), gb, wc20.heap.size, wb21.heap.size) _ ⟨(HSV _ HFB.out.now HFX.out.now), HFB.out, HFX.out, ⟨B0, d0, B1, d1, rfl, rfl, HU.out⟩, HG.out, ⟨HNG.out, HNL.out, HLE.out, HHI.out, HGB.out⟩, HN.out, HB.out⟩)
    · skip
      refine box_step ?hg (N := 9) ?hd (cs := #[.slice none 0 0, .slice none 0 0]) (t := 42) ?hr ?_; (case hd => rfl); (case hg => rfl); (case hr => first | (go_simp; done) | (go_simp; rfl))
      intro gb hg_ wc22 hbox_ hb_
      have HNG : Aside0 (n3 ≤ gb) := ⟨by rw [hg_]; exact HN.out⟩
      replace HFB := Aside0.mk (HFB.out.below (fun k_ h_ => Nat.lt_of_lt_of_le h_ HNN.out) HN.out hb_)
      replace HFX := Aside0.mk (HFX.out.below (fun k_ h_ => h_.2) HN.out hb_)
      replace HN := Aside0.mk (Nat.le_trans HN.out hb_.size)
      replace HB := Aside0.mk (below_step HB.out hb_)
      have HG := Aside0.mk hbox_
      clear hbox_ hb_ hg_
      refine hK.out _ _ (HSV _ HFB.out.now HFX.out.now) (fun hHeld => ?_)
      clear hK K
      refine norm_ (a' := ?_) ?_ ?_
      rotate_left
      · show Act.put _ (some 9) _ = _
        simp only [Act.put, List.setIfInBounds_toArray, List.set_cons_zero, List.set_cons_succ, i64_w, i32_w]
        rfl
      refine one_ (i := 2) (N := some 39) #[true, true, true, false, false, false, false, true, false, false] rfl rfl (one_of HT_.out (by kernel_rfl)) (by decide) (fun K hK => ?_)
      refine goes_ Try.func47 (by kernel_rfl) rfl #[.agg #[.int .i64 a, .int .i64 b, .string s]] (by rfl) rfl rfl (by (try simp only [List.map_toArray, List.map_cons, List.map_nil]); first | done | rfl) ?_
      refine (laws_toDeed.calls a b s a b s _ HA0.out).mono ?_
      rintro e_ wb23 ⟨rfl, hb_⟩
      refine ⟨_, rfl, ?_⟩
      replace HFB := Aside0.mk (HFB.out.below (fun k_ h_ => Nat.lt_of_lt_of_le h_ HNN.out) HN.out hb_)
      replace HFX := Aside0.mk (HFX.out.below (fun k_ h_ => h_.2) HN.out hb_)
      replace HG := Aside0.mk (blk_below (o := .cells #[.slice none 0 0, .slice none 0 0] 42 (0, 0)) HG.out hb_)
      replace HN := Aside0.mk (Nat.le_trans HN.out hb_.size)
      replace HB := Aside0.mk (below_step HB.out hb_)
      clear hb_
      refine hK.out _ _ (HSV _ HFB.out.now HFX.out.now) (fun hHeld => ?_)
      clear hK K
      refine norm_ (a' := ?_) ?_ ?_
      rotate_left
      · show Act.put _ (some 39) _ = _
        simp only [Act.put, List.setIfInBounds_toArray, List.set_cons_zero, List.set_cons_succ, i64_w, i32_w]
        rfl
      refine one_ (i := 3) (N := some 40) #[true, true, true, true, false, false, false, true, false, false] rfl rfl (one_of HT_.out (by kernel_rfl)) (by decide) (fun K hK => ?_)
      have HNL := HN
      have HGL := Aside0.mk (blk_lt HG.out)
      refine goes_ Try.func48 (by kernel_rfl) rfl #[.agg #[.slice X0 N.length y0, .slice X1 P.length y1], .agg #[.int .i64 a, .int .i64 b, .string s]] (by rfl) rfl rfl (by (try simp only [List.map_toArray, List.map_cons, List.map_nil]); first | done | rfl) ?_
      refine (doI_c k HB.out.size (hPX _ HFX.out.now).2.r HI0.out).mono ?_
      rintro e_ wb24 ⟨B0, d0, B1, d1, rfl, hd_, hb_⟩
      refine ⟨_, rfl, ?_⟩
      have hsz_ := hb_.size
      replace HFB := Aside0.mk (HFB.out.below (fun k_ h_ => Nat.lt_of_lt_of_le h_ HNN.out) HN.out hb_)
      replace HFX := Aside0.mk (HFX.out.below (fun k_ h_ => h_.2) HN.out hb_)
      replace HG := Aside0.mk (blk_below (o := .cells #[.slice none 0 0, .slice none 0 0] 42 (0, 0)) HG.out hb_)
      replace HN := Aside0.mk (Nat.le_trans HN.out hb_.size)
      replace HB := Aside0.mk (below_step HB.out hb_)
      have HU := Aside0.mk (Fo_dk (ok := fun k_ => wb23.heap.size ≤ k_ ∧ k_ < wb24.heap.size) hd_ (fun k_ h1_ h2_ => ⟨h1_, h2_⟩))
      have HHI := Aside0.mk (Nat.le_refl wb24.heap.size)
      have HLE := Aside0.mk hsz_
      have HGB : Aside0 (gb < wb23.heap.size ∨ wb24.heap.size ≤ gb) := ⟨.inl HGL.out⟩
      clear hd_ hb_ hsz_
      refine hK.out _ _ (HSV _ HFB.out.now HFX.out.now) (fun hHeld => ?_)
      clear hK K
      refine norm_ (a' := ?_) ?_ ?_
      rotate_left
      · show Act.put _ (some 40) _ = _
        simp only [Act.put, List.setIfInBounds_toArray, List.set_cons_zero, List.set_cons_succ, i64_w, i32_w]
        rfl
      refine pure_ (i := 4) (N := some 36) (v := ?_) (a' := ?_) #[true, true, true, true, true, false, false, true, false, false] rfl rfl (any_of HT_.out (by kernel_rfl)) (fun _ _ _ h => h) (Or.inl ⟨by rfl, ?_⟩) ?_ ?_
      rotate_left
      · intro w'
        go_simp
        with_reducible rfl
      rotate_left
      · simp only [Act.put, List.setIfInBounds_toArray, List.set_cons_zero, List.set_cons_succ, i64_w, i32_w]
        rfl
      refine pure_ (i := 5) (N := some 41) (v := ?_) (a' := ?_) #[true, true, true, true, true, true, false, true, false, false] rfl rfl (any_of HT_.out (by kernel_rfl)) (fun _ _ _ h => h) (Or.inl ⟨by rfl, ?_⟩) ?_ ?_
      rotate_left
      · intro w'
        go_simp
        with_reducible rfl
      rotate_left
      · simp only [Act.put, List.setIfInBounds_toArray, List.set_cons_zero, List.set_cons_succ, i64_w, i32_w]
        rfl
      refine pure_ (i := 6) (N := some 42) (v := ?_) (a' := ?_) #[true, true, true, true, true, true, true, true, false, false] rfl rfl (any_of HT_.out (by kernel_rfl)) (fun _ _ _ h => h) (Or.inl ⟨by rfl, ?_⟩) ?_ ?_
      rotate_left
      · intro w'
        go_simp
        with_reducible rfl
      rotate_left
      · simp only [Act.put, List.setIfInBounds_toArray, List.set_cons_zero, List.set_cons_succ, i64_w, i32_w]
        rfl
      exact norm_ (by simp only [putAll, Act.put, List.setIfInBounds_toArray, List.set_cons_zero, List.set_cons_succ]) (hCont (undef, undef, (.slice B0 N'.length d0 : Value), (.slice B1 P'.length d1 : Value), gb, wb23.heap.size, wb24.heap.size) _ ⟨(HSV _ HFB.out.now HFX.out.now), HFB.out, HFX.out, ⟨B0, d0, B1, d1, rfl, rfl, HU.out⟩, HG.out, ⟨HNG.out, HNL.out, HLE.out, HHI.out, HGB.out⟩, HN.out, HB.out⟩)
  clear HFB HFX HN HB hHeld
  rintro ⟨v0_, v1_, u0_, u1_, gb10, lo10, hi10⟩ wj25 ⟨hHeld, hHFB_, hHFX_, ⟨B100, d100, B101, d101, eu0_, eu1_, hu_⟩, hg_, ⟨q1_, q2_, q3_, q4_, q5_⟩, q6_, hb_⟩
  simp only at eu0_ eu1_ hu_ hg_ q1_ q2_ q3_ q4_ q5_
  subst eu0_ eu1_
  have HFB := Aside0.mk hHFB_
  have HFX := Aside0.mk hHFX_
  have HU10 := Aside0.mk hu_
  have HG10 := Aside0.mk hg_
  have HN := Aside0.mk q6_
  have HB := Aside0.mk hb_
  have QN10 := Aside0.mk (And.intro q1_ (And.intro q2_ (And.intro q3_ (And.intro q4_ q5_))))
  clear hHFB_ hHFX_ hu_ hg_ q1_ q2_ q3_ q4_ q5_ q6_ hb_
  refine norm_ (a' := ?_) ?_ ?_
  rotate_left
  · simp only [putAll, Act.put, List.setIfInBounds_toArray, List.set_cons_zero, List.set_cons_succ]
    rfl
  refine one_ (i := 8) (N := none) #[true, true, true, true, true, true, true, true, true, false] rfl rfl (one_of HT_.out (by kernel_rfl)) (by decide) (fun K hK => ?_)
  have hs0_ : wj25.cell? ⟨gb10, 0, none⟩ = some (.slice none 0 0) := (blk_cell HG10.out 0).trans rfl
  have hfs0_ := blk_frozen HG10.out 0
  have hs1_ : wj25.cell? ⟨gb10, 1, none⟩ = some (.slice none 0 0) := (blk_cell HG10.out 1).trans rfl
  have hfs1_ := blk_frozen HG10.out 1
  have hlt_ := blk_lt HG10.out
  have zHFB := Aside0.mk (HFB.out.step (W' := ((wj25.setCell ⟨gb10, 0, none⟩ (.slice B100 N'.length d100)).setCell ⟨gb10, 1, none⟩ (.slice B101 P'.length d101))) (fun k_ h_ => two_far _ _ k_ (by have z_ := QN10.out.1; have y_ := (Nat.lt_of_lt_of_le h_ HNN.out); omega)))
  have zHFX := Aside0.mk (HFX.out.step (W' := ((wj25.setCell ⟨gb10, 0, none⟩ (.slice B100 N'.length d100)).setCell ⟨gb10, 1, none⟩ (.slice B101 P'.length d101))) (fun k_ h_ => two_far _ _ k_ (by have z_ := QN10.out.1; have y_ := (h_.2); omega)))
  have zHU := Aside0.mk (HU10.out.step (W' := ((wj25.setCell ⟨gb10, 0, none⟩ (.slice B100 N'.length d100)).setCell ⟨gb10, 1, none⟩ (.slice B101 P'.length d101))) (fun k_ h_ => two_far _ _ k_ (by have z_ := QN10.out.2.2.2.2; omega)))
  have zHG := Aside0.mk (two_box (u := .slice B100 N'.length d100) (v := .slice B101 P'.length d101) HG10.out)
  have zHB : Aside0 (Below w.heap.size w ((wj25.setCell ⟨gb10, 0, none⟩ (.slice B100 N'.length d100)).setCell ⟨gb10, 1, none⟩ (.slice B101 P'.length d101))) := ⟨below_set (below_set HB.out (Nat.le_trans HWN.out QN10.out.1)) (Nat.le_trans HWN.out QN10.out.1)⟩
  have zHN : Aside0 (n3 ≤ ((wj25.setCell ⟨gb10, 0, none⟩ (.slice B100 N'.length d100)).setCell ⟨gb10, 1, none⟩ (.slice B101 P'.length d101)).heap.size) := ⟨by rw [two_size]; exact HN.out⟩
  have zHH : Aside0 (hi10 ≤ ((wj25.setCell ⟨gb10, 0, none⟩ (.slice B100 N'.length d100)).setCell ⟨gb10, 1, none⟩ (.slice B101 P'.length d101)).heap.size ∧ gb10 < ((wj25.setCell ⟨gb10, 0, none⟩ (.slice B100 N'.length d100)).setCell ⟨gb10, 1, none⟩ (.slice B101 P'.length d101)).heap.size) := ⟨by rw [two_size]; exact ⟨QN10.out.2.2.2.1, hlt_⟩⟩
  refine skip_ (w1 := ?_) (by rfl) rfl ?_ ?_
  rotate_left
  · go_simp
    rfl
  refine hK.out _ _ (HSV _ zHFB.out.now zHFX.out.now) (fun hHeld => ?_)
  clear hK K
  refine pure_ (i := 9) (N := some 10) (v := ?_) (a' := ?_) #[true, true, true, true, true, true, true, true, true, true] rfl rfl (any_of HT_.out (by kernel_rfl)) (fun _ _ _ h => h) (Or.inl ⟨by rfl, ?_⟩) ?_ ?_
  rotate_left
  · intro w'
    go_simp
    with_reducible rfl
  rotate_left
  · simp only [Act.put, List.setIfInBounds_toArray, List.set_cons_zero, List.set_cons_succ, i64_w, i32_w]
    rfl
  refine done_ (done_of HT_.out (by kernel_rfl)) ?_
  clear HFB HFX HU10 HG10 HB HN hHeld hs0_ hs1_ hfs0_ hfs1_ hlt_ HT_ HW_
  generalize ((wj25.setCell ⟨gb10, 0, none⟩ (.slice B100 N'.length d100)).setCell ⟨gb10, 1, none⟩ (.slice B101 P'.length d101)) = wn10 at zHFB zHFX zHU zHG zHB zHN zHH ⊢
  have HFB := zHFB
  have HFX := zHFX
  have HU10 := zHU
  have HG10 := zHG
  have HB := zHB
  have HN := zHN
  have HH10 := zHH
  clear zHFB zHFX zHU zHG zHB zHN zHH
  have hca_0 : wn10.cell? ⟨gb10, 0, none⟩ = some (.slice B100 N'.length d100) := (blk_cell HG10.out 0).trans rfl
  have hfa_0 := blk_frozen HG10.out 0
  have hca_1 : wn10.cell? ⟨gb10, 1, none⟩ = some (.slice B101 P'.length d101) := (blk_cell HG10.out 1).trans rfl
  have hfa_1 := blk_frozen HG10.out 1
  have hcb_0 : wn10.cell? ⟨gb8, 0, none⟩ = some (.slice B80 N'.length d80) := (blk_cell (hPB _ HFB.out.now).2.1 0).trans rfl
  have hfb_0 := blk_frozen (hPB _ HFB.out.now).2.1 0
  have hcb_1 : wn10.cell? ⟨gb8, 1, none⟩ = some (.slice B81 P'.length d81) := (blk_cell (hPB _ HFB.out.now).2.1 1).trans rfl
  have hfb_1 := blk_frozen (hPB _ HFB.out.now).2.1 1
  go_wp2_with (first | ((with_reducible refine gate_callee (f := 34) rfl ?_); refine goesL_ (some 45) rfl rfl Try.func34 (by kernel_rfl) rfl #[.agg #[.slice B100 N'.length d100, .slice B101 P'.length d101], .agg #[.slice B80 N'.length d80, .slice B81 P'.length d81]] rfl (by (try simp only [List.map_toArray, List.map_cons, List.map_nil]); first | done | rfl) ?_; (refine (eq_c k HU10.out.now.r (hPB _ HFB.out.now).2.2 HEE.out).mono ?_); rintro e_ w11 ⟨rfl, hb_⟩; refine ⟨_, rfl, ?_⟩; (try clear hca_0 hfa_0 hca_1 hfa_1); (try clear hcb_0 hfb_0 hcb_1 hfb_1); have n0_ := Aside0.mk (HFB.out.below (fun k_ h_ => Nat.lt_of_lt_of_le h_ HNN.out) HN.out hb_); have n1_ := Aside0.mk (HFX.out.below (fun k_ h_ => h_.2) HN.out hb_); have n2_ := Aside0.mk (HU10.out.below (fun k_ h_ => h_.2) HH10.out.1 hb_); have n3_ := Aside0.mk (blk_below (o := .cells #[.slice B100 N'.length d100, .slice B101 P'.length d101] 42 (0, 0)) HG10.out hb_); have n4_ := Aside0.mk (And.intro (Nat.le_trans HH10.out.1 hb_.size) (Nat.lt_of_lt_of_le HH10.out.2 hb_.size)); have n5_ := Aside0.mk (Nat.le_trans HN.out hb_.size); have n6_ := Aside0.mk (below_step HB.out hb_); clear HFB HFX HU10 HG10 HH10 HN HB; have HFB := n0_; have HFX := n1_; have HU10 := n2_; have HG10 := n3_; have HH10 := n4_; have HN := n5_; have HB := n6_; clear n0_ n1_ n2_ n3_ n4_ n5_ n6_; clear hb_))
  have HSW : ∀ w', PPB w' → PPX w' → w'.cell? ⟨gb9, 0, none⟩ = some (.slice X0 N.length y0) ∧ w'.cell? ⟨gb9, 1, none⟩ = some (.slice X1 P.length y1) ∧ w'.cell? ⟨g2, 0, none⟩ = some (.slice A0 l0.length c0) ∧ w'.cell? ⟨g2, 1, none⟩ = some (.slice A1 l1.length c1) := fun w' h_ x_ => ⟨(blk_cell (hPX w' x_).1 0).trans rfl, (blk_cell (hPX w' x_).1 1).trans rfl, (blk_cell (hPA w' (hPB w' h_).1).1 0).trans rfl, (blk_cell (hPA w' (hPB w' h_).1).1 1).trans rfl⟩
  replace HFB := Aside0.mk (HFB.out.step (W' := w11.drew) (fun _ _ => rfl))
  replace HFX := Aside0.mk (HFX.out.step (W' := w11.drew) (fun _ _ => rfl))
  replace HU10 := Aside0.mk (HU10.out.step (W' := w11.drew) (fun _ _ => rfl))
  replace HG10 : Aside0 (w11.drew.heap[gb10]? = some (.cells #[.slice B100 N'.length d100, .slice B101 P'.length d101] 42 (0, 0))) := ⟨HG10.out⟩
  replace HH10 : Aside0 (hi10 ≤ w11.drew.heap.size ∧ gb10 < w11.drew.heap.size) := ⟨HH10.out⟩
  replace HN : Aside0 (n3 ≤ w11.drew.heap.size) := ⟨HN.out⟩
  replace HB := Aside0.mk (below_drew1 HB.out)
  refine start_ (n := 5) (S := fun w' => w'.cell? ⟨gb9, 0, none⟩ = some (.slice X0 N.length y0) ∧ w'.cell? ⟨gb9, 1, none⟩ = some (.slice X1 P.length y1) ∧ w'.cell? ⟨g2, 0, none⟩ = some (.slice A0 l0.length c0) ∧ w'.cell? ⟨g2, 1, none⟩ = some (.slice A1 l1.length c1)) (ds := []) #[false, false, false, false, false] (by kernel_rfl) rfl rfl (HSW _ HFB.out.now HFX.out.now) (fun hHeld => ?_)
  generalize w11.drew = w12 at HFB HFX HU10 HG10 HH10 HN HB hHeld ⊢
  refine take_ (i := 0) (N := some 52) (v := ?_) (a' := ?_) #[true, false, false, false, false] rfl rfl (by kernel_rfl) (fun _ _ _ h => h) (Or.inl ⟨by rfl, ?_⟩) hHeld ?_ ?_
  rotate_left
  · rintro w' ⟨s0, s1, s2, s3⟩
    go_simp
    with_reducible rfl
  rotate_left
  · simp only [Act.put, List.setIfInBounds_toArray, List.set_cons_zero, List.set_cons_succ, i64_w, i32_w]
    rfl
  refine take_ (i := 1) (N := some 53) (v := ?_) (a' := ?_) #[true, true, false, false, false] rfl rfl (by kernel_rfl) (fun _ _ _ h => h) (Or.inl ⟨by rfl, ?_⟩) hHeld ?_ ?_
  rotate_left
  · rintro w' ⟨s0, s1, s2, s3⟩
    go_simp
    with_reducible rfl
  rotate_left
  · simp only [Act.put, List.setIfInBounds_toArray, List.set_cons_zero, List.set_cons_succ, i64_w, i32_w]
    rfl
  refine one_ (i := 2) (N := some 54) #[true, true, true, false, false] rfl rfl (by kernel_rfl) (by decide) (fun K hK => ?_)
  refine goes_ Try.func33 (by kernel_rfl) rfl #[.agg #[.slice A0 l0.length c0, .slice A1 l1.length c1]] (by rfl) rfl rfl (by (try simp only [List.map_toArray, List.map_cons, List.map_nil]); first | done | rfl) ?_
  refine (toDesk_c k HB.out HR0.out HC0.out HR1.out HC1.out HT0.out).mono ?_
  rintro e_ w13 ⟨Z0, z0, Z1, z1, rfl, hd_, hb_⟩
  refine ⟨_, rfl, ?_⟩
  have n0_ := Aside0.mk (HFB.out.below (fun k_ h_ => Nat.lt_of_lt_of_le h_ HNN.out) HN.out hb_); have n1_ := Aside0.mk (HFX.out.below (fun k_ h_ => h_.2) HN.out hb_); have n2_ := Aside0.mk (HU10.out.below (fun k_ h_ => h_.2) HH10.out.1 hb_); have n3_ := Aside0.mk (blk_below (o := .cells #[.slice B100 N'.length d100, .slice B101 P'.length d101] 42 (0, 0)) HG10.out hb_); have n4_ := Aside0.mk (And.intro (Nat.le_trans HH10.out.1 hb_.size) (Nat.lt_of_lt_of_le HH10.out.2 hb_.size)); have n5_ := Aside0.mk (Nat.le_trans HN.out hb_.size); have n6_ := Aside0.mk (below_step HB.out hb_); clear HFB HFX HU10 HG10 HH10 HN HB; have HFB := n0_; have HFX := n1_; have HU10 := n2_; have HG10 := n3_; have HH10 := n4_; have HN := n5_; have HB := n6_; clear n0_ n1_ n2_ n3_ n4_ n5_ n6_
  have HX := Aside0.mk hd_.r
  clear hd_ hb_
  refine hK.out _ _ (HSW _ HFB.out.now HFX.out.now) (fun hHeld => ?_)
  clear hK K
  refine norm_ (a' := ?_) ?_ ?_
  rotate_left
  · show Act.put _ (some 54) _ = _
    simp only [Act.put, List.setIfInBounds_toArray, List.set_cons_zero, List.set_cons_succ, i64_w, i32_w]
    rfl
  refine one_ (i := 3) (N := some 55) #[true, true, true, true, false] rfl rfl (by kernel_rfl) (by decide) (fun K hK => ?_)
  refine goes_ Try.func34 (by kernel_rfl) rfl #[.agg #[.slice X0 N.length y0, .slice X1 P.length y1], .agg #[.slice Z0 N.length z0, .slice Z1 P.length z1]] (by rfl) rfl rfl (by (try simp only [List.map_toArray, List.map_cons, List.map_nil]); first | done | rfl) ?_
  refine (eq_c k (hPX _ HFX.out.now).2.r HX.out HE0.out).mono ?_
  rintro e_ w14 ⟨rfl, hb_⟩
  refine ⟨_, rfl, ?_⟩
  have n0_ := Aside0.mk (HFB.out.below (fun k_ h_ => Nat.lt_of_lt_of_le h_ HNN.out) HN.out hb_); have n1_ := Aside0.mk (HFX.out.below (fun k_ h_ => h_.2) HN.out hb_); have n2_ := Aside0.mk (HU10.out.below (fun k_ h_ => h_.2) HH10.out.1 hb_); have n3_ := Aside0.mk (blk_below (o := .cells #[.slice B100 N'.length d100, .slice B101 P'.length d101] 42 (0, 0)) HG10.out hb_); have n4_ := Aside0.mk (And.intro (Nat.le_trans HH10.out.1 hb_.size) (Nat.lt_of_lt_of_le HH10.out.2 hb_.size)); have n5_ := Aside0.mk (Nat.le_trans HN.out hb_.size); have n6_ := Aside0.mk (below_step HB.out hb_); clear HFB HFX HU10 HG10 HH10 HN HB; have HFB := n0_; have HFX := n1_; have HU10 := n2_; have HG10 := n3_; have HH10 := n4_; have HN := n5_; have HB := n6_; clear n0_ n1_ n2_ n3_ n4_ n5_ n6_
  clear HX hb_
  refine hK.out _ _ (HSW _ HFB.out.now HFX.out.now) (fun hHeld => ?_)
  clear hK K
  refine norm_ (a' := ?_) ?_ ?_
  rotate_left
  · show Act.put _ (some 55) _ = _
    simp only [Act.put, List.setIfInBounds_toArray, List.set_cons_zero, List.set_cons_succ, i64_w, i32_w]
    rfl
  refine pure_ (i := 4) (N := some 56) (v := ?_) (a' := ?_) #[true, true, true, true, true] rfl rfl (by kernel_rfl) (fun _ _ _ h => h) (Or.inl ⟨by rfl, ?_⟩) ?_ ?_
  rotate_left
  · intro w'
    go_simp
    with_reducible rfl
  rotate_left
  · simp only [Act.put, List.setIfInBounds_toArray, List.set_cons_zero, List.set_cons_succ, i64_w, i32_w]
    rfl
  refine done_ (by kernel_rfl) ?_
  clear hHeld
  have hca_0 : w14.cell? ⟨gb9, 0, none⟩ = some (.slice X0 N.length y0) := (blk_cell (hPX _ HFX.out.now).1 0).trans rfl
  have hfa_0 := blk_frozen (hPX _ HFX.out.now).1 0
  have hca_1 : w14.cell? ⟨gb9, 1, none⟩ = some (.slice X1 P.length y1) := (blk_cell (hPX _ HFX.out.now).1 1).trans rfl
  have hfa_1 := blk_frozen (hPX _ HFX.out.now).1 1
  go_wp2_with (first | ((with_reducible refine gate_callee (f := 39) rfl ?_); refine goesL_ (some 59) rfl rfl Try.func39 (by kernel_rfl) rfl #[.agg #[.slice X0 N.length y0, .slice X1 P.length y1], .int .i64 1] rfl (by (try simp only [List.map_toArray, List.map_cons, List.map_nil]); first | done | rfl) ?_; (refine (mark_c k HB.out (hPX _ HFX.out.now).2 (Nat.le_trans HHX.out HN.out) HM1.out HM2.out).mono ?_); rintro e_ w16 ⟨rfl, hf_, hb_, hs_, hk_⟩; refine ⟨_, rfl, ?_⟩; (try clear hca_0 hfa_0 hca_1 hfa_1); have hn2_ := hn2; have n0_ := Aside0.mk (HFB.out.step (fun k_ h_ => hk_ k_ (Nat.lt_of_lt_of_le h_ (Nat.le_trans HNN.out HN.out)) (fun z_ => by have y_ := z_.1; omega))); have n2_ := Aside0.mk (HU10.out.step (fun k_ h_ => hk_ k_ (Nat.lt_of_lt_of_le h_.2 HH10.out.1) (fun z_ => by have y_ := z_.2; have x_ := QN10.out.2.1; have v_ := HHX.out; have u_ := h_.1; omega))); have n3_ := Aside0.mk ((hk_ gb10 HH10.out.2 (fun z_ => by have y_ := z_.2; have x_ := QN10.out.1; have v_ := HHX.out; omega)).trans HG10.out); have n4_ := Aside0.mk (And.intro (Nat.le_trans HH10.out.1 hs_) (Nat.lt_of_lt_of_le HH10.out.2 hs_)); have n5_ := Aside0.mk (Nat.le_trans HN.out hs_); have n6_ := Aside0.mk hb_; clear HFB HFX HU10 HG10 HH10 HN HB; have HFB := n0_; have HU10 := n2_; have HG10 := n3_; have HH10 := n4_; have HN := n5_; have HB := n6_; clear n0_ n2_ n3_ n4_ n5_ n6_ hf_ hb_ hs_ hk_ hn2_; have hcb_0 : w16.cell? ⟨gb10, 0, none⟩ = some (.slice B100 N'.length d100) := (blk_cell HG10.out 0).trans rfl; have hfb_0 := blk_frozen HG10.out 0; have hcb_1 : w16.cell? ⟨gb10, 1, none⟩ = some (.slice B101 P'.length d101) := (blk_cell HG10.out 1).trans rfl; have hfb_1 := blk_frozen HG10.out 1; have hcc_0 : w16.cell? ⟨gb8, 0, none⟩ = some (.slice B80 N'.length d80) := (blk_cell (hPB _ HFB.out.now).2.1 0).trans rfl; have hfc_0 := blk_frozen (hPB _ HFB.out.now).2.1 0; have hcc_1 : w16.cell? ⟨gb8, 1, none⟩ = some (.slice B81 P'.length d81) := (blk_cell (hPB _ HFB.out.now).2.1 1).trans rfl; have hfc_1 := blk_frozen (hPB _ HFB.out.now).2.1 1) | (go_at_call 34; (refine (eq_c k HU10.out.now.r (hPB _ HFB.out.now).2.2 HEE.out).mono ?_); rintro e_ w17 ⟨rfl, hb_⟩; (try clear hcb_0 hfb_0 hcb_1 hfb_1); (try clear hcc_0 hfc_0 hcc_1 hfc_1); have n0_ := Aside0.mk (HFB.out.below (fun k_ h_ => Nat.lt_of_lt_of_le h_ HNN.out) HN.out hb_); have n2_ := Aside0.mk (HU10.out.below (fun k_ h_ => h_.2) HH10.out.1 hb_); have n3_ := Aside0.mk (blk_below (o := .cells #[.slice B100 N'.length d100, .slice B101 P'.length d101] 42 (0, 0)) HG10.out hb_); have n4_ := Aside0.mk (And.intro (Nat.le_trans HH10.out.1 hb_.size) (Nat.lt_of_lt_of_le HH10.out.2 hb_.size)); have n5_ := Aside0.mk (Nat.le_trans HN.out hb_.size); have n6_ := Aside0.mk (below_step HB.out hb_); clear HFB HU10 HG10 HH10 HN HB; have HFB := n0_; have HU10 := n2_; have HG10 := n3_; have HH10 := n4_; have HN := n5_; have HB := n6_; clear n0_ n2_ n3_ n4_ n5_ n6_; clear hb_; have hcd_0 : w17.cell? ⟨gb10, 0, none⟩ = some (.slice B100 N'.length d100) := (blk_cell HG10.out 0).trans rfl; have hfd_0 := blk_frozen HG10.out 0; have hcd_1 : w17.cell? ⟨gb10, 1, none⟩ = some (.slice B101 P'.length d101) := (blk_cell HG10.out 1).trans rfl; have hfd_1 := blk_frozen HG10.out 1) | ((with_reducible refine gate_callee (f := 39) rfl ?_); refine goesL_ (some 75) rfl rfl Try.func39 (by kernel_rfl) rfl #[.agg #[.slice B100 N'.length d100, .slice B101 P'.length d101], .int .i64 1] rfl (by (try simp only [List.map_toArray, List.map_cons, List.map_nil]); first | done | rfl) ?_; (refine (mark_c k HB.out HU10.out.now HH10.out.1 HN1.out HN2.out).mono ?_); rintro e_ w20 ⟨rfl, hf_, hb_, hs_, hk_⟩; refine ⟨_, rfl, ?_⟩; (try clear hcd_0 hfd_0 hcd_1 hfd_1); have n0_ := Aside0.mk (HFB.out.step (fun k_ h_ => hk_ k_ (Nat.lt_of_lt_of_le h_ (Nat.le_trans HNN.out HN.out)) (fun z_ => by have y_ := z_.1; have x_ := QN10.out.2.1; have v_ := HNN.out; omega))); have n1_ := Aside0.mk hf_; have n3_ := Aside0.mk ((hk_ gb10 HH10.out.2 (fun z_ => by have y_ := z_.1; have x_ := z_.2; have v_ := QN10.out.2.2.2.2; omega)).trans HG10.out); have n5_ := Aside0.mk (Nat.le_trans HN.out hs_); have n6_ := Aside0.mk hb_; clear HFB HU10 HG10 HH10 HN HB; have HFB := n0_; have HMK := n1_; have HMS := Aside0.mk (Nat.le_refl w20.heap.size); have HG10 := n3_; have HN := n5_; have HB := n6_; clear n0_ n1_ n3_ n5_ n6_ hf_ hb_ hs_ hk_; have hce_0 : w20.cell? ⟨gb10, 0, none⟩ = some (.slice B100 N'.length d100) := (blk_cell HG10.out 0).trans rfl; have hfe_0 := blk_frozen HG10.out 0; have hce_1 : w20.cell? ⟨gb10, 1, none⟩ = some (.slice B101 P'.length d101) := (blk_cell HG10.out 1).trans rfl; have hfe_1 := blk_frozen HG10.out 1) | ((with_reducible refine gate_callee (f := 40) rfl ?_); refine goesL_ (some 78) rfl rfl Try.func40 (by kernel_rfl) rfl #[.agg #[.slice B100 N'.length d100, .slice B101 P'.length d101], .int .i64 1] rfl (by (try simp only [List.map_toArray, List.map_cons, List.map_nil]); first | done | rfl) ?_; (refine (held_c k HMK.out.now HHD.out).mono ?_); rintro e_ w22 ⟨rfl, hb_⟩; refine ⟨_, rfl, ?_⟩; (try clear hce_0 hfe_0 hce_1 hfe_1); have n0_ := Aside0.mk (HFB.out.below (fun k_ h_ => Nat.lt_of_lt_of_le h_ HNN.out) HN.out hb_); have n1_ := Aside0.mk (HMK.out.below (fun k_ h_ => h_) HMS.out hb_); have n2_ := Aside0.mk (Nat.le_trans HMS.out hb_.size); have n3_ := Aside0.mk (blk_below (o := .cells #[.slice B100 N'.length d100, .slice B101 P'.length d101] 42 (0, 0)) HG10.out hb_); have n5_ := Aside0.mk (Nat.le_trans HN.out hb_.size); have n6_ := Aside0.mk (below_step HB.out hb_); clear HFB HMK HMS HG10 HN HB; have HFB := n0_; have HMK := n1_; have HMS := n2_; have HG10 := n3_; have HN := n5_; have HB := n6_; clear n0_ n1_ n2_ n3_ n5_ n6_; clear hb_))
  obtain ⟨n_, hn_⟩ : ∃ n, n = w22.heap.size := ⟨_, rfl⟩
  obtain ⟨PPC, HFC, hPC⟩ : ∃ PP : World → Prop, Aside0 (Fo (fun k_ => k_ < n_) PP w22) ∧ (∀ V, PP V → PPB V ∧ V.heap[gb10]? = some (.cells #[.slice B100 N'.length d100, .slice B101 P'.length d101] 42 (0, 0)) ∧ Dr B100 d100 B101 d101 N'.length P'.length M' Q' V) := ⟨_, ⟨(HFB.out.mono (fun k_ h_ => by rw [hn_]; exact Nat.lt_of_lt_of_le h_ (Nat.le_trans HNN.out HN.out))).and ((Fo_box HG10.out (by rw [hn_]; exact blk_lt HG10.out)).and (HMK.out.mono (fun k_ h_ => by rw [hn_]; exact Nat.lt_of_lt_of_le h_ HMS.out)))⟩, fun _ h => h⟩
  clear HN HWN HFB HMK HMS HG10 HSV
  have HN : Aside0 (n_ ≤ w22.heap.size) := ⟨Nat.le_of_eq hn_⟩
  have HWN : Aside0 (w.heap.size ≤ n_) := ⟨by rw [hn_]; exact HB.out.size⟩
  have HSV : ∀ w', PPC w' → w'.cell? ⟨g2, 0, none⟩ = some (.slice A0 l0.length c0) ∧ w'.cell? ⟨g2, 1, none⟩ = some (.slice A1 l1.length c1) ∧ w'.cell? ⟨g3, 0, none⟩ = some (.int .i64 a) ∧ w'.cell? ⟨g3, 1, none⟩ = some (.int .i64 b) ∧ w'.cell? ⟨g3, 2, none⟩ = some (.string s) := fun w' h_ => ⟨(blk_cell (hPA w' (hPB w' (hPC w' h_).1).1).1 0).trans rfl, (blk_cell (hPA w' (hPB w' (hPC w' h_).1).1).1 1).trans rfl, (blk_cell (hPA w' (hPB w' (hPC w' h_).1).1).2 0).trans rfl, (blk_cell (hPA w' (hPB w' (hPC w' h_).1).1).2 1).trans rfl, (blk_cell (hPA w' (hPB w' (hPC w' h_).1).1).2 2).trans rfl⟩
  clear hn_
  replace HFC := Aside0.mk (HFC.out.step (W' := w22.drew) (fun _ _ => rfl))
  replace HN : Aside0 (n_ ≤ w22.drew.heap.size) := ⟨HN.out⟩
  replace HB := Aside0.mk (below_drew1 HB.out)
  refine start_ (n := 11) (S := fun w' => w'.cell? ⟨g2, 0, none⟩ = some (.slice A0 l0.length c0) ∧ w'.cell? ⟨g2, 1, none⟩ = some (.slice A1 l1.length c1) ∧ w'.cell? ⟨g3, 0, none⟩ = some (.int .i64 a) ∧ w'.cell? ⟨g3, 1, none⟩ = some (.int .i64 b) ∧ w'.cell? ⟨g3, 2, none⟩ = some (.string s)) (ds := []) #[false, false, false, false, false, false, false, false, false, false, false] (by kernel_rfl) rfl rfl (HSV _ HFC.out.now) (fun hHeld => ?_); refine with_tabW laws_FnExactDeskDo.tab27 laws_FnExactDeskDo.bits27 (fun HT_ HW_ => ?_)
  generalize w22.drew = wa26 at HFC HN HB hHeld ⊢
  refine take_ (i := 0) (N := some 85) (v := ?_) (a' := ?_) #[true, false, false, false, false, false, false, false, false, false, false] rfl rfl (take_ofW HT_.out HW_.out (by kernel_rfl)) (fun _ _ _ h => h) (Or.inl ⟨by rfl, ?_⟩) hHeld ?_ ?_
  rotate_left
  · rintro w' ⟨s0, s1, s2, s3, s4⟩
    go_simp
    with_reducible rfl
  rotate_left
  · simp only [Act.put, List.setIfInBounds_toArray, List.set_cons_zero, List.set_cons_succ, i64_w, i32_w]
    rfl
  refine take_ (i := 2) (N := some 87) (v := ?_) (a' := ?_) #[true, false, true, false, false, false, false, false, false, false, false] rfl rfl (take_ofW HT_.out HW_.out (by kernel_rfl)) (fun _ _ _ h => h) (Or.inl ⟨by rfl, ?_⟩) hHeld ?_ ?_
  rotate_left
  · rintro w' ⟨s0, s1, s2, s3, s4⟩
    go_simp
    with_reducible rfl
  rotate_left
  · simp only [Act.put, List.setIfInBounds_toArray, List.set_cons_zero, List.set_cons_succ, i64_w, i32_w]
    rfl
  refine join_ (σ := Value × Value × Value × Value × Nat × Nat × Nat) 2 #[true, true, true, true, true, true, true, true, true, false, false] (fun s_ => [(86, .agg #[s_.1, s_.2.1]), (88, .agg #[.int .i64 a, .int .i64 b, .string s]), (89, .tuple #[.agg #[s_.2.2.1, s_.2.2.2.1], .bool ok]), (14, .pointer (some ⟨s_.2.2.2.2.1, 0, none⟩)), (84, .tuple #[.agg #[s_.2.2.1, s_.2.2.2.1], .bool ok]), (90, .agg #[s_.2.2.1, s_.2.2.2.1]), (91, .bool ok)]) (fun s_ w' => (w'.cell? ⟨g2, 0, none⟩ = some (.slice A0 l0.length c0) ∧ w'.cell? ⟨g2, 1, none⟩ = some (.slice A1 l1.length c1) ∧ w'.cell? ⟨g3, 0, none⟩ = some (.int .i64 a) ∧ w'.cell? ⟨g3, 1, none⟩ = some (.int .i64 b) ∧ w'.cell? ⟨g3, 2, none⟩ = some (.string s)) ∧ Fo (fun k_ => k_ < n_) PPC w' ∧  (∃ (B0 : Option Addr) (d0 : Nat) (B1 : Option Addr) (d1 : Nat), s_.2.2.1 = .slice B0 N'.length d0 ∧ s_.2.2.2.1 = .slice B1 P'.length d1 ∧ Fo (fun k_ => s_.2.2.2.2.2.1 ≤ k_ ∧ k_ < s_.2.2.2.2.2.2) (Dk w.heap.size s_.2.2.2.2.2.1 s_.2.2.2.2.2.2 (.slice B0 N'.length d0) (.slice B1 P'.length d1) N' P') w') ∧ w'.heap[s_.2.2.2.2.1]? = some (.cells #[.slice none 0 0, .slice none 0 0] 42 (0, 0)) ∧ (n_ ≤ s_.2.2.2.2.1 ∧ n_ ≤ s_.2.2.2.2.2.1 ∧ s_.2.2.2.2.2.1 ≤ s_.2.2.2.2.2.2 ∧ s_.2.2.2.2.2.2 ≤ w'.heap.size ∧ (s_.2.2.2.2.1 < s_.2.2.2.2.2.1 ∨ s_.2.2.2.2.2.2 ≤ s_.2.2.2.2.1)) ∧ n_ ≤ w'.heap.size ∧ Below w.heap.size w w') ?_ ?_
  rotate_left
  · intro hCont
    refine two_ (i := 1) (j := 8) (Ni := some 86) (Nj := some 14) #[true, true, true, false, false, false, false, false, false, false, false] #[true, false, true, false, false, false, false, false, true, false, false] rfl rfl rfl rfl (two_of HT_.out (by kernel_rfl)) (by decide) (by decide) (fun K hK => ?_) (fun K hK => ?_)
    · skip
      refine goes_ Try.func33 (by kernel_rfl) rfl #[.agg #[.slice A0 l0.length c0, .slice A1 l1.length c1]] (by rfl) rfl rfl (by (try simp only [List.map_toArray, List.map_cons, List.map_nil]); first | done | rfl) ?_
      refine (toDesk_c k HB.out HR0.out HC0.out HR1.out HC1.out HT0.out).mono ?_
      rintro e_ wb27 ⟨X0, y0, X1, y1, rfl, hd_, hb_⟩
      refine ⟨_, rfl, ?_⟩
      replace HFC := Aside0.mk (HFC.out.below (fun k_ h_ => h_) HN.out hb_)
      replace HN := Aside0.mk (Nat.le_trans HN.out hb_.size)
      replace HB := Aside0.mk (below_step HB.out hb_)
      have HX := Aside0.mk hd_.r
      clear hd_ hb_
      refine hK.out _ _ (HSV _ HFC.out.now) (fun hHeld => ?_)
      clear hK K
      refine norm_ (a' := ?_) ?_ ?_
      rotate_left
      · show Act.put _ (some 86) _ = _
        simp only [Act.put, List.setIfInBounds_toArray, List.set_cons_zero, List.set_cons_succ, i64_w, i32_w]
        rfl
      refine two_ (i := 3) (j := 8) (Ni := some 88) (Nj := some 14) #[true, true, true, true, false, false, false, false, false, false, false] #[true, true, true, false, false, false, false, false, true, false, false] rfl rfl rfl rfl (two_of HT_.out (by kernel_rfl)) (by decide) (by decide) (fun K hK => ?_) (fun K hK => ?_)
      · skip
        refine goes_ Try.func47 (by kernel_rfl) rfl #[.agg #[.int .i64 a, .int .i64 b, .string s]] (by rfl) rfl rfl (by (try simp only [List.map_toArray, List.map_cons, List.map_nil]); first | done | rfl) ?_
        refine (laws_toDeed.calls a b s a b s _ HA0.out).mono ?_
        rintro e_ wb28 ⟨rfl, hb_⟩
        refine ⟨_, rfl, ?_⟩
        replace HFC := Aside0.mk (HFC.out.below (fun k_ h_ => h_) HN.out hb_)
        replace HX := Aside0.mk (HX.out.below hb_)
        replace HN := Aside0.mk (Nat.le_trans HN.out hb_.size)
        replace HB := Aside0.mk (below_step HB.out hb_)
        clear hb_
        refine hK.out _ _ (HSV _ HFC.out.now) (fun hHeld => ?_)
        clear hK K
        refine norm_ (a' := ?_) ?_ ?_
        rotate_left
        · show Act.put _ (some 88) _ = _
          simp only [Act.put, List.setIfInBounds_toArray, List.set_cons_zero, List.set_cons_succ, i64_w, i32_w]
          rfl
        refine two_ (i := 4) (j := 8) (Ni := some 89) (Nj := some 14) #[true, true, true, true, true, false, false, false, false, false, false] #[true, true, true, true, false, false, false, false, true, false, false] rfl rfl rfl rfl (two_of HT_.out (by kernel_rfl)) (by decide) (by decide) (fun K hK => ?_) (fun K hK => ?_)
        · skip
          have HNL := HN
          refine goes_ Try.func48 (by kernel_rfl) rfl #[.agg #[.slice X0 N.length y0, .slice X1 P.length y1], .agg #[.int .i64 a, .int .i64 b, .string s]] (by rfl) rfl rfl (by (try simp only [List.map_toArray, List.map_cons, List.map_nil]); first | done | rfl) ?_
          refine (doI_c k HB.out.size HX.out HI0.out).mono ?_
          rintro e_ wb29 ⟨B0, d0, B1, d1, rfl, hd_, hb_⟩
          refine ⟨_, rfl, ?_⟩
          have hsz_ := hb_.size
          replace HFC := Aside0.mk (HFC.out.below (fun k_ h_ => h_) HN.out hb_)
          replace HN := Aside0.mk (Nat.le_trans HN.out hb_.size)
          replace HB := Aside0.mk (below_step HB.out hb_)
          have HU := Aside0.mk (Fo_dk (ok := fun k_ => wb28.heap.size ≤ k_ ∧ k_ < wb29.heap.size) hd_ (fun k_ h1_ h2_ => ⟨h1_, h2_⟩))
          have HHI := Aside0.mk (Nat.le_refl wb29.heap.size)
          have HLE := Aside0.mk hsz_
          clear hd_ hb_ hsz_
          refine hK.out _ _ (HSV _ HFC.out.now) (fun hHeld => ?_)
          clear hK K
          refine norm_ (a' := ?_) ?_ ?_
          rotate_left
          · show Act.put _ (some 89) _ = _
            simp only [Act.put, List.setIfInBounds_toArray, List.set_cons_zero, List.set_cons_succ, i64_w, i32_w]
            rfl
          refine pure_ (i := 5) (N := some 84) (v := ?_) (a' := ?_) #[true, true, true, true, true, true, false, false, false, false, false] rfl rfl (any_of HT_.out (by kernel_rfl)) (fun _ _ _ h => h) (Or.inl ⟨by rfl, ?_⟩) ?_ ?_
          rotate_left
          · intro w'
            go_simp
            with_reducible rfl
          rotate_left
          · simp only [Act.put, List.setIfInBounds_toArray, List.set_cons_zero, List.set_cons_succ, i64_w, i32_w]
            rfl
          refine pure_ (i := 6) (N := some 90) (v := ?_) (a' := ?_) #[true, true, true, true, true, true, true, false, false, false, false] rfl rfl (any_of HT_.out (by kernel_rfl)) (fun _ _ _ h => h) (Or.inl ⟨by rfl, ?_⟩) ?_ ?_
          rotate_left
          · intro w'
            go_simp
            with_reducible rfl
          rotate_left
          · simp only [Act.put, List.setIfInBounds_toArray, List.set_cons_zero, List.set_cons_succ, i64_w, i32_w]
            rfl
          refine pure_ (i := 7) (N := some 91) (v := ?_) (a' := ?_) #[true, true, true, true, true, true, true, true, false, false, false] rfl rfl (any_of HT_.out (by kernel_rfl)) (fun _ _ _ h => h) (Or.inl ⟨by rfl, ?_⟩) ?_ ?_
          rotate_left
          · intro w'
            go_simp
            with_reducible rfl
          rotate_left
          · simp only [Act.put, List.setIfInBounds_toArray, List.set_cons_zero, List.set_cons_succ, i64_w, i32_w]
            rfl
          refine one_ (i := 8) (N := some 14) #[true, true, true, true, true, true, true, true, true, false, false] rfl rfl (one_of HT_.out (by kernel_rfl)) (by decide) (fun K hK => ?_)
          refine box_step ?hg (N := 14) ?hd (cs := #[.slice none 0 0, .slice none 0 0]) (t := 42) ?hr ?_; (case hd => rfl); (case hg => rfl); (case hr => first | (go_simp; done) | (go_simp; rfl))
          intro gb hg_ wc30 hbox_ hb_
          have HNG : Aside0 (n_ ≤ gb) := ⟨by rw [hg_]; exact HN.out⟩
          have HGB : Aside0 (gb < wb28.heap.size ∨ wb29.heap.size ≤ gb) := ⟨.inr (by rw [hg_]; exact HHI.out)⟩
          replace HFC := Aside0.mk (HFC.out.below (fun k_ h_ => h_) HN.out hb_)
          replace HU := Aside0.mk (HU.out.below (fun k_ h_ => h_.2) HHI.out hb_)
          replace HHI := Aside0.mk (Nat.le_trans HHI.out hb_.size)
          replace HN := Aside0.mk (Nat.le_trans HN.out hb_.size)
          replace HB := Aside0.mk (below_step HB.out hb_)
          have HG := Aside0.mk hbox_
          clear hbox_ hb_ hg_
          refine hK.out _ _ (HSV _ HFC.out.now) (fun hHeld => ?_)
          clear hK K
          refine norm_ (a' := ?_) ?_ ?_
          rotate_left
          · show Act.put _ (some 14) _ = _
            simp only [Act.put, List.setIfInBounds_toArray, List.set_cons_zero, List.set_cons_succ, i64_w, i32_w]
            rfl
          exact norm_ (by simp only [putAll, Act.put, List.setIfInBounds_toArray, List.set_cons_zero, List.set_cons_succ]) (hCont ((.slice X0 N.length y0 : Value), (.slice X1 P.length y1 : Value), (.slice B0 N'.length d0 : Value), (.slice B1 P'.length d1 : Value), gb, wb28.heap.size, wb29.heap.size) _ ⟨(HSV _ HFC.out.now), HFC.out, ⟨B0, d0, B1, d1, rfl, rfl, HU.out⟩, HG.out, ⟨HNG.out, HNL.out, HLE.out, HHI.out, HGB.out⟩, HN.out, HB.out⟩)
        · skip
          refine box_step ?hg (N := 14) ?hd (cs := #[.slice none 0 0, .slice none 0 0]) (t := 42) ?hr ?_; (case hd => rfl); (case hg => rfl); (case hr => first | (go_simp; done) | (go_simp; rfl))
          intro gb hg_ wc31 hbox_ hb_
          have HNG : Aside0 (n_ ≤ gb) := ⟨by rw [hg_]; exact HN.out⟩
          replace HFC := Aside0.mk (HFC.out.below (fun k_ h_ => h_) HN.out hb_)
          replace HX := Aside0.mk (HX.out.below hb_)
          replace HN := Aside0.mk (Nat.le_trans HN.out hb_.size)
          replace HB := Aside0.mk (below_step HB.out hb_)
          have HG := Aside0.mk hbox_
          clear hbox_ hb_ hg_
          refine hK.out _ _ (HSV _ HFC.out.now) (fun hHeld => ?_)
          clear hK K
          refine norm_ (a' := ?_) ?_ ?_
          rotate_left
          · show Act.put _ (some 14) _ = _
            simp only [Act.put, List.setIfInBounds_toArray, List.set_cons_zero, List.set_cons_succ, i64_w, i32_w]
            rfl
          refine one_ (i := 4) (N := some 89) #[true, true, true, true, true, false, false, false, true, false, false] rfl rfl (one_of HT_.out (by kernel_rfl)) (by decide) (fun K hK => ?_)
          have HNL := HN
          have HGL := Aside0.mk (blk_lt HG.out)
          refine goes_ Try.func48 (by kernel_rfl) rfl #[.agg #[.slice X0 N.length y0, .slice X1 P.length y1], .agg #[.int .i64 a, .int .i64 b, .string s]] (by rfl) rfl rfl (by (try simp only [List.map_toArray, List.map_cons, List.map_nil]); first | done | rfl) ?_
          refine (doI_c k HB.out.size HX.out HI0.out).mono ?_
          rintro e_ wb32 ⟨B0, d0, B1, d1, rfl, hd_, hb_⟩
          refine ⟨_, rfl, ?_⟩
          have hsz_ := hb_.size
          replace HFC := Aside0.mk (HFC.out.below (fun k_ h_ => h_) HN.out hb_)
          replace HG := Aside0.mk (blk_below (o := .cells #[.slice none 0 0, .slice none 0 0] 42 (0, 0)) HG.out hb_)
          replace HN := Aside0.mk (Nat.le_trans HN.out hb_.size)
          replace HB := Aside0.mk (below_step HB.out hb_)
          have HU := Aside0.mk (Fo_dk (ok := fun k_ => wc31.heap.size ≤ k_ ∧ k_ < wb32.heap.size) hd_ (fun k_ h1_ h2_ => ⟨h1_, h2_⟩))
          have HHI := Aside0.mk (Nat.le_refl wb32.heap.size)
          have HLE := Aside0.mk hsz_
          have HGB : Aside0 (gb < wc31.heap.size ∨ wb32.heap.size ≤ gb) := ⟨.inl HGL.out⟩
          clear hd_ hb_ hsz_
          refine hK.out _ _ (HSV _ HFC.out.now) (fun hHeld => ?_)
          clear hK K
          refine norm_ (a' := ?_) ?_ ?_
          rotate_left
          · show Act.put _ (some 89) _ = _
            simp only [Act.put, List.setIfInBounds_toArray, List.set_cons_zero, List.set_cons_succ, i64_w, i32_w]
            rfl
          refine pure_ (i := 5) (N := some 84) (v := ?_) (a' := ?_) #[true, true, true, true, true, true, false, false, true, false, false] rfl rfl (any_of HT_.out (by kernel_rfl)) (fun _ _ _ h => h) (Or.inl ⟨by rfl, ?_⟩) ?_ ?_
          rotate_left
          · intro w'
            go_simp
            with_reducible rfl
          rotate_left
          · simp only [Act.put, List.setIfInBounds_toArray, List.set_cons_zero, List.set_cons_succ, i64_w, i32_w]
            rfl
          refine pure_ (i := 6) (N := some 90) (v := ?_) (a' := ?_) #[true, true, true, true, true, true, true, false, true, false, false] rfl rfl (any_of HT_.out (by kernel_rfl)) (fun _ _ _ h => h) (Or.inl ⟨by rfl, ?_⟩) ?_ ?_
          rotate_left
          · intro w'
            go_simp
            with_reducible rfl
          rotate_left
          · simp only [Act.put, List.setIfInBounds_toArray, List.set_cons_zero, List.set_cons_succ, i64_w, i32_w]
            rfl
          refine pure_ (i := 7) (N := some 91) (v := ?_) (a' := ?_) #[true, true, true, true, true, true, true, true, true, false, false] rfl rfl (any_of HT_.out (by kernel_rfl)) (fun _ _ _ h => h) (Or.inl ⟨by rfl, ?_⟩) ?_ ?_
          rotate_left
          · intro w'
            go_simp
            with_reducible rfl
          rotate_left
          · simp only [Act.put, List.setIfInBounds_toArray, List.set_cons_zero, List.set_cons_succ, i64_w, i32_w]
            rfl
          exact norm_ (by simp only [putAll, Act.put, List.setIfInBounds_toArray, List.set_cons_zero, List.set_cons_succ]) (hCont ((.slice X0 N.length y0 : Value), (.slice X1 P.length y1 : Value), (.slice B0 N'.length d0 : Value), (.slice B1 P'.length d1 : Value), gb, wc31.heap.size, wb32.heap.size) _ ⟨(HSV _ HFC.out.now), HFC.out, ⟨B0, d0, B1, d1, rfl, rfl, HU.out⟩, HG.out, ⟨HNG.out, HNL.out, HLE.out, HHI.out, HGB.out⟩, HN.out, HB.out⟩)
      · skip
        refine box_step ?hg (N := 14) ?hd (cs := #[.slice none 0 0, .slice none 0 0]) (t := 42) ?hr ?_; (case hd => rfl); (case hg => rfl); (case hr => first | (go_simp; done) | (go_simp; rfl))
        intro gb hg_ wc33 hbox_ hb_
        have HNG : Aside0 (n_ ≤ gb) := ⟨by rw [hg_]; exact HN.out⟩
        replace HFC := Aside0.mk (HFC.out.below (fun k_ h_ => h_) HN.out hb_)
        replace HX := Aside0.mk (HX.out.below hb_)
        replace HN := Aside0.mk (Nat.le_trans HN.out hb_.size)
        replace HB := Aside0.mk (below_step HB.out hb_)
        have HG := Aside0.mk hbox_
        clear hbox_ hb_ hg_
        refine hK.out _ _ (HSV _ HFC.out.now) (fun hHeld => ?_)
        clear hK K
        refine norm_ (a' := ?_) ?_ ?_
        rotate_left
        · show Act.put _ (some 14) _ = _
          simp only [Act.put, List.setIfInBounds_toArray, List.set_cons_zero, List.set_cons_succ, i64_w, i32_w]
          rfl
        refine one_ (i := 3) (N := some 88) #[true, true, true, true, false, false, false, false, true, false, false] rfl rfl (one_of HT_.out (by kernel_rfl)) (by decide) (fun K hK => ?_)
        refine goes_ Try.func47 (by kernel_rfl) rfl #[.agg #[.int .i64 a, .int .i64 b, .string s]] (by rfl) rfl rfl (by (try simp only [List.map_toArray, List.map_cons, List.map_nil]); first | done | rfl) ?_
        refine (laws_toDeed.calls a b s a b s _ HA0.out).mono ?_
        rintro e_ wb34 ⟨rfl, hb_⟩
        refine ⟨_, rfl, ?_⟩
        replace HFC := Aside0.mk (HFC.out.below (fun k_ h_ => h_) HN.out hb_)
        replace HX := Aside0.mk (HX.out.below hb_)
        replace HG := Aside0.mk (blk_below (o := .cells #[.slice none 0 0, .slice none 0 0] 42 (0, 0)) HG.out hb_)
        replace HN := Aside0.mk (Nat.le_trans HN.out hb_.size)
        replace HB := Aside0.mk (below_step HB.out hb_)
        clear hb_
        refine hK.out _ _ (HSV _ HFC.out.now) (fun hHeld => ?_)
        clear hK K
        refine norm_ (a' := ?_) ?_ ?_
        rotate_left
        · show Act.put _ (some 88) _ = _
          simp only [Act.put, List.setIfInBounds_toArray, List.set_cons_zero, List.set_cons_succ, i64_w, i32_w]
          rfl
        refine one_ (i := 4) (N := some 89) #[true, true, true, true, true, false, false, false, true, false, false] rfl rfl (one_of HT_.out (by kernel_rfl)) (by decide) (fun K hK => ?_)
        have HNL := HN
        have HGL := Aside0.mk (blk_lt HG.out)
        refine goes_ Try.func48 (by kernel_rfl) rfl #[.agg #[.slice X0 N.length y0, .slice X1 P.length y1], .agg #[.int .i64 a, .int .i64 b, .string s]] (by rfl) rfl rfl (by (try simp only [List.map_toArray, List.map_cons, List.map_nil]); first | done | rfl) ?_
        refine (doI_c k HB.out.size HX.out HI0.out).mono ?_
        rintro e_ wb35 ⟨B0, d0, B1, d1, rfl, hd_, hb_⟩
        refine ⟨_, rfl, ?_⟩
        have hsz_ := hb_.size
        replace HFC := Aside0.mk (HFC.out.below (fun k_ h_ => h_) HN.out hb_)
        replace HG := Aside0.mk (blk_below (o := .cells #[.slice none 0 0, .slice none 0 0] 42 (0, 0)) HG.out hb_)
        replace HN := Aside0.mk (Nat.le_trans HN.out hb_.size)
        replace HB := Aside0.mk (below_step HB.out hb_)
        have HU := Aside0.mk (Fo_dk (ok := fun k_ => wb34.heap.size ≤ k_ ∧ k_ < wb35.heap.size) hd_ (fun k_ h1_ h2_ => ⟨h1_, h2_⟩))
        have HHI := Aside0.mk (Nat.le_refl wb35.heap.size)
        have HLE := Aside0.mk hsz_
        have HGB : Aside0 (gb < wb34.heap.size ∨ wb35.heap.size ≤ gb) := ⟨.inl HGL.out⟩
        clear hd_ hb_ hsz_
        refine hK.out _ _ (HSV _ HFC.out.now) (fun hHeld => ?_)
        clear hK K
        refine norm_ (a' := ?_) ?_ ?_
        rotate_left
        · show Act.put _ (some 89) _ = _
          simp only [Act.put, List.setIfInBounds_toArray, List.set_cons_zero, List.set_cons_succ, i64_w, i32_w]
          rfl
        refine pure_ (i := 5) (N := some 84) (v := ?_) (a' := ?_) #[true, true, true, true, true, true, false, false, true, false, false] rfl rfl (any_of HT_.out (by kernel_rfl)) (fun _ _ _ h => h) (Or.inl ⟨by rfl, ?_⟩) ?_ ?_
        rotate_left
        · intro w'
          go_simp
          with_reducible rfl
        rotate_left
        · simp only [Act.put, List.setIfInBounds_toArray, List.set_cons_zero, List.set_cons_succ, i64_w, i32_w]
          rfl
        refine pure_ (i := 6) (N := some 90) (v := ?_) (a' := ?_) #[true, true, true, true, true, true, true, false, true, false, false] rfl rfl (any_of HT_.out (by kernel_rfl)) (fun _ _ _ h => h) (Or.inl ⟨by rfl, ?_⟩) ?_ ?_
        rotate_left
        · intro w'
          go_simp
          with_reducible rfl
        rotate_left
        · simp only [Act.put, List.setIfInBounds_toArray, List.set_cons_zero, List.set_cons_succ, i64_w, i32_w]
          rfl
        refine pure_ (i := 7) (N := some 91) (v := ?_) (a' := ?_) #[true, true, true, true, true, true, true, true, true, false, false] rfl rfl (any_of HT_.out (by kernel_rfl)) (fun _ _ _ h => h) (Or.inl ⟨by rfl, ?_⟩) ?_ ?_
        rotate_left
        · intro w'
          go_simp
          with_reducible rfl
        rotate_left
        · simp only [Act.put, List.setIfInBounds_toArray, List.set_cons_zero, List.set_cons_succ, i64_w, i32_w]
          rfl
        exact norm_ (by simp only [putAll, Act.put, List.setIfInBounds_toArray, List.set_cons_zero, List.set_cons_succ]) (hCont ((.slice X0 N.length y0 : Value), (.slice X1 P.length y1 : Value), (.slice B0 N'.length d0 : Value), (.slice B1 P'.length d1 : Value), gb, wb34.heap.size, wb35.heap.size) _ ⟨(HSV _ HFC.out.now), HFC.out, ⟨B0, d0, B1, d1, rfl, rfl, HU.out⟩, HG.out, ⟨HNG.out, HNL.out, HLE.out, HHI.out, HGB.out⟩, HN.out, HB.out⟩)
    · skip
      refine box_step ?hg (N := 14) ?hd (cs := #[.slice none 0 0, .slice none 0 0]) (t := 42) ?hr ?_; (case hd => rfl); (case hg => rfl); (case hr => first | (go_simp; done) | (go_simp; rfl))
      intro gb hg_ wc36 hbox_ hb_
      have HNG : Aside0 (n_ ≤ gb) := ⟨by rw [hg_]; exact HN.out⟩
      replace HFC := Aside0.mk (HFC.out.below (fun k_ h_ => h_) HN.out hb_)
      replace HN := Aside0.mk (Nat.le_trans HN.out hb_.size)
      replace HB := Aside0.mk (below_step HB.out hb_)
      have HG := Aside0.mk hbox_
      clear hbox_ hb_ hg_
      refine hK.out _ _ (HSV _ HFC.out.now) (fun hHeld => ?_)
      clear hK K
      refine norm_ (a' := ?_) ?_ ?_
      rotate_left
      · show Act.put _ (some 14) _ = _
        simp only [Act.put, List.setIfInBounds_toArray, List.set_cons_zero, List.set_cons_succ, i64_w, i32_w]
        rfl
      refine one_ (i := 1) (N := some 86) #[true, true, true, false, false, false, false, false, true, false, false] rfl rfl (one_of HT_.out (by kernel_rfl)) (by decide) (fun K hK => ?_)
      refine goes_ Try.func33 (by kernel_rfl) rfl #[.agg #[.slice A0 l0.length c0, .slice A1 l1.length c1]] (by rfl) rfl rfl (by (try simp only [List.map_toArray, List.map_cons, List.map_nil]); first | done | rfl) ?_
      refine (toDesk_c k HB.out HR0.out HC0.out HR1.out HC1.out HT0.out).mono ?_
      rintro e_ wb37 ⟨X0, y0, X1, y1, rfl, hd_, hb_⟩
      refine ⟨_, rfl, ?_⟩
      replace HFC := Aside0.mk (HFC.out.below (fun k_ h_ => h_) HN.out hb_)
      replace HG := Aside0.mk (blk_below (o := .cells #[.slice none 0 0, .slice none 0 0] 42 (0, 0)) HG.out hb_)
      replace HN := Aside0.mk (Nat.le_trans HN.out hb_.size)
      replace HB := Aside0.mk (below_step HB.out hb_)
      have HX := Aside0.mk hd_.r
      clear hd_ hb_
      refine hK.out _ _ (HSV _ HFC.out.now) (fun hHeld => ?_)
      clear hK K
      refine norm_ (a' := ?_) ?_ ?_
      rotate_left
      · show Act.put _ (some 86) _ = _
        simp only [Act.put, List.setIfInBounds_toArray, List.set_cons_zero, List.set_cons_succ, i64_w, i32_w]
        rfl
      refine one_ (i := 3) (N := some 88) #[true, true, true, true, false, false, false, false, true, false, false] rfl rfl (one_of HT_.out (by kernel_rfl)) (by decide) (fun K hK => ?_)
      refine goes_ Try.func47 (by kernel_rfl) rfl #[.agg #[.int .i64 a, .int .i64 b, .string s]] (by rfl) rfl rfl (by (try simp only [List.map_toArray, List.map_cons, List.map_nil]); first | done | rfl) ?_
      refine (laws_toDeed.calls a b s a b s _ HA0.out).mono ?_
      rintro e_ wb38 ⟨rfl, hb_⟩
      refine ⟨_, rfl, ?_⟩
      replace HFC := Aside0.mk (HFC.out.below (fun k_ h_ => h_) HN.out hb_)
      replace HG := Aside0.mk (blk_below (o := .cells #[.slice none 0 0, .slice none 0 0] 42 (0, 0)) HG.out hb_)
      replace HX := Aside0.mk (HX.out.below hb_)
      replace HN := Aside0.mk (Nat.le_trans HN.out hb_.size)
      replace HB := Aside0.mk (below_step HB.out hb_)
      clear hb_
      refine hK.out _ _ (HSV _ HFC.out.now) (fun hHeld => ?_)
      clear hK K
      refine norm_ (a' := ?_) ?_ ?_
      rotate_left
      · show Act.put _ (some 88) _ = _
        simp only [Act.put, List.setIfInBounds_toArray, List.set_cons_zero, List.set_cons_succ, i64_w, i32_w]
        rfl
      refine one_ (i := 4) (N := some 89) #[true, true, true, true, true, false, false, false, true, false, false] rfl rfl (one_of HT_.out (by kernel_rfl)) (by decide) (fun K hK => ?_)
      have HNL := HN
      have HGL := Aside0.mk (blk_lt HG.out)
      refine goes_ Try.func48 (by kernel_rfl) rfl #[.agg #[.slice X0 N.length y0, .slice X1 P.length y1], .agg #[.int .i64 a, .int .i64 b, .string s]] (by rfl) rfl rfl (by (try simp only [List.map_toArray, List.map_cons, List.map_nil]); first | done | rfl) ?_
      refine (doI_c k HB.out.size HX.out HI0.out).mono ?_
      rintro e_ wb39 ⟨B0, d0, B1, d1, rfl, hd_, hb_⟩
      refine ⟨_, rfl, ?_⟩
      have hsz_ := hb_.size
      replace HFC := Aside0.mk (HFC.out.below (fun k_ h_ => h_) HN.out hb_)
      replace HG := Aside0.mk (blk_below (o := .cells #[.slice none 0 0, .slice none 0 0] 42 (0, 0)) HG.out hb_)
      replace HN := Aside0.mk (Nat.le_trans HN.out hb_.size)
      replace HB := Aside0.mk (below_step HB.out hb_)
      have HU := Aside0.mk (Fo_dk (ok := fun k_ => wb38.heap.size ≤ k_ ∧ k_ < wb39.heap.size) hd_ (fun k_ h1_ h2_ => ⟨h1_, h2_⟩))
      have HHI := Aside0.mk (Nat.le_refl wb39.heap.size)
      have HLE := Aside0.mk hsz_
      have HGB : Aside0 (gb < wb38.heap.size ∨ wb39.heap.size ≤ gb) := ⟨.inl HGL.out⟩
      clear hd_ hb_ hsz_
      refine hK.out _ _ (HSV _ HFC.out.now) (fun hHeld => ?_)
      clear hK K
      refine norm_ (a' := ?_) ?_ ?_
      rotate_left
      · show Act.put _ (some 89) _ = _
        simp only [Act.put, List.setIfInBounds_toArray, List.set_cons_zero, List.set_cons_succ, i64_w, i32_w]
        rfl
      refine pure_ (i := 5) (N := some 84) (v := ?_) (a' := ?_) #[true, true, true, true, true, true, false, false, true, false, false] rfl rfl (any_of HT_.out (by kernel_rfl)) (fun _ _ _ h => h) (Or.inl ⟨by rfl, ?_⟩) ?_ ?_
      rotate_left
      · intro w'
        go_simp
        with_reducible rfl
      rotate_left
      · simp only [Act.put, List.setIfInBounds_toArray, List.set_cons_zero, List.set_cons_succ, i64_w, i32_w]
        rfl
      refine pure_ (i := 6) (N := some 90) (v := ?_) (a' := ?_) #[true, true, true, true, true, true, true, false, true, false, false] rfl rfl (any_of HT_.out (by kernel_rfl)) (fun _ _ _ h => h) (Or.inl ⟨by rfl, ?_⟩) ?_ ?_
      rotate_left
      · intro w'
        go_simp
        with_reducible rfl
      rotate_left
      · simp only [Act.put, List.setIfInBounds_toArray, List.set_cons_zero, List.set_cons_succ, i64_w, i32_w]
        rfl
      refine pure_ (i := 7) (N := some 91) (v := ?_) (a' := ?_) #[true, true, true, true, true, true, true, true, true, false, false] rfl rfl (any_of HT_.out (by kernel_rfl)) (fun _ _ _ h => h) (Or.inl ⟨by rfl, ?_⟩) ?_ ?_
      rotate_left
      · intro w'
        go_simp
        with_reducible rfl
      rotate_left
      · simp only [Act.put, List.setIfInBounds_toArray, List.set_cons_zero, List.set_cons_succ, i64_w, i32_w]
        rfl
      exact norm_ (by simp only [putAll, Act.put, List.setIfInBounds_toArray, List.set_cons_zero, List.set_cons_succ]) (hCont ((.slice X0 N.length y0 : Value), (.slice X1 P.length y1 : Value), (.slice B0 N'.length d0 : Value), (.slice B1 P'.length d1 : Value), gb, wb38.heap.size, wb39.heap.size) _ ⟨(HSV _ HFC.out.now), HFC.out, ⟨B0, d0, B1, d1, rfl, rfl, HU.out⟩, HG.out, ⟨HNG.out, HNL.out, HLE.out, HHI.out, HGB.out⟩, HN.out, HB.out⟩)
  clear HFC HN HB hHeld
  rintro ⟨v0_, v1_, u0_, u1_, gb27, lo27, hi27⟩ wj40 ⟨hHeld, hHFC_, ⟨B270, d270, B271, d271, eu0_, eu1_, hu_⟩, hg_, ⟨q1_, q2_, q3_, q4_, q5_⟩, q6_, hb_⟩
  simp only at eu0_ eu1_ hu_ hg_ q1_ q2_ q3_ q4_ q5_
  subst eu0_ eu1_
  have HFC := Aside0.mk hHFC_
  have HU27 := Aside0.mk hu_
  have HG27 := Aside0.mk hg_
  have HN := Aside0.mk q6_
  have HB := Aside0.mk hb_
  have QN27 := Aside0.mk (And.intro q1_ (And.intro q2_ (And.intro q3_ (And.intro q4_ q5_))))
  clear hHFC_ hu_ hg_ q1_ q2_ q3_ q4_ q5_ q6_ hb_
  refine norm_ (a' := ?_) ?_ ?_
  rotate_left
  · simp only [putAll, Act.put, List.setIfInBounds_toArray, List.set_cons_zero, List.set_cons_succ]
    rfl
  refine one_ (i := 9) (N := none) #[true, true, true, true, true, true, true, true, true, true, false] rfl rfl (one_of HT_.out (by kernel_rfl)) (by decide) (fun K hK => ?_)
  have hs0_ : wj40.cell? ⟨gb27, 0, none⟩ = some (.slice none 0 0) := (blk_cell HG27.out 0).trans rfl
  have hfs0_ := blk_frozen HG27.out 0
  have hs1_ : wj40.cell? ⟨gb27, 1, none⟩ = some (.slice none 0 0) := (blk_cell HG27.out 1).trans rfl
  have hfs1_ := blk_frozen HG27.out 1
  have hlt_ := blk_lt HG27.out
  have zHFC := Aside0.mk (HFC.out.step (W' := ((wj40.setCell ⟨gb27, 0, none⟩ (.slice B270 N'.length d270)).setCell ⟨gb27, 1, none⟩ (.slice B271 P'.length d271))) (fun k_ h_ => two_far _ _ k_ (by have z_ := QN27.out.1; have y_ := (h_); omega)))
  have zHU := Aside0.mk (HU27.out.step (W' := ((wj40.setCell ⟨gb27, 0, none⟩ (.slice B270 N'.length d270)).setCell ⟨gb27, 1, none⟩ (.slice B271 P'.length d271))) (fun k_ h_ => two_far _ _ k_ (by have z_ := QN27.out.2.2.2.2; omega)))
  have zHG := Aside0.mk (two_box (u := .slice B270 N'.length d270) (v := .slice B271 P'.length d271) HG27.out)
  have zHB : Aside0 (Below w.heap.size w ((wj40.setCell ⟨gb27, 0, none⟩ (.slice B270 N'.length d270)).setCell ⟨gb27, 1, none⟩ (.slice B271 P'.length d271))) := ⟨below_set (below_set HB.out (Nat.le_trans HWN.out QN27.out.1)) (Nat.le_trans HWN.out QN27.out.1)⟩
  have zHN : Aside0 (n_ ≤ ((wj40.setCell ⟨gb27, 0, none⟩ (.slice B270 N'.length d270)).setCell ⟨gb27, 1, none⟩ (.slice B271 P'.length d271)).heap.size) := ⟨by rw [two_size]; exact HN.out⟩
  have zHH : Aside0 (hi27 ≤ ((wj40.setCell ⟨gb27, 0, none⟩ (.slice B270 N'.length d270)).setCell ⟨gb27, 1, none⟩ (.slice B271 P'.length d271)).heap.size ∧ gb27 < ((wj40.setCell ⟨gb27, 0, none⟩ (.slice B270 N'.length d270)).setCell ⟨gb27, 1, none⟩ (.slice B271 P'.length d271)).heap.size) := ⟨by rw [two_size]; exact ⟨QN27.out.2.2.2.1, hlt_⟩⟩
  refine skip_ (w1 := ?_) (by rfl) rfl ?_ ?_
  rotate_left
  · go_simp
    rfl
  refine hK.out _ _ (HSV _ zHFC.out.now) (fun hHeld => ?_)
  clear hK K
  refine pure_ (i := 10) (N := some 15) (v := ?_) (a' := ?_) #[true, true, true, true, true, true, true, true, true, true, true] rfl rfl (any_of HT_.out (by kernel_rfl)) (fun _ _ _ h => h) (Or.inl ⟨by rfl, ?_⟩) ?_ ?_
  rotate_left
  · intro w'
    go_simp
    with_reducible rfl
  rotate_left
  · simp only [Act.put, List.setIfInBounds_toArray, List.set_cons_zero, List.set_cons_succ, i64_w, i32_w]
    rfl
  refine done_ (done_of HT_.out (by kernel_rfl)) ?_
  clear HFC HU27 HG27 HB HN hHeld hs0_ hs1_ hfs0_ hfs1_ hlt_ HT_ HW_
  generalize ((wj40.setCell ⟨gb27, 0, none⟩ (.slice B270 N'.length d270)).setCell ⟨gb27, 1, none⟩ (.slice B271 P'.length d271)) = wn27 at zHFC zHU zHG zHB zHN zHH ⊢
  have HFC := zHFC
  have HU27 := zHU
  have HG27 := zHG
  have HB := zHB
  have HN := zHN
  have HH27 := zHH
  clear zHFC zHU zHG zHB zHN zHH
  have hca_0 : wn27.cell? ⟨gb27, 0, none⟩ = some (.slice B270 N'.length d270) := (blk_cell HG27.out 0).trans rfl
  have hfa_0 := blk_frozen HG27.out 0
  have hca_1 : wn27.cell? ⟨gb27, 1, none⟩ = some (.slice B271 P'.length d271) := (blk_cell HG27.out 1).trans rfl
  have hfa_1 := blk_frozen HG27.out 1
  have hcb_0 : wn27.cell? ⟨gb8, 0, none⟩ = some (.slice B80 N'.length d80) := (blk_cell (hPB _ (hPC _ HFC.out.now).1).2.1 0).trans rfl
  have hfb_0 := blk_frozen (hPB _ (hPC _ HFC.out.now).1).2.1 0
  have hcb_1 : wn27.cell? ⟨gb8, 1, none⟩ = some (.slice B81 P'.length d81) := (blk_cell (hPB _ (hPC _ HFC.out.now).1).2.1 1).trans rfl
  have hfb_1 := blk_frozen (hPB _ (hPC _ HFC.out.now).1).2.1 1
  go_wp2_with (first | ((with_reducible refine gate_callee (f := 34) rfl ?_); refine goesL_ (some 94) rfl rfl Try.func34 (by kernel_rfl) rfl #[.agg #[.slice B270 N'.length d270, .slice B271 P'.length d271], .agg #[.slice B80 N'.length d80, .slice B81 P'.length d81]] rfl (by (try simp only [List.map_toArray, List.map_cons, List.map_nil]); first | done | rfl) ?_; (refine (eq_c k HU27.out.now.r (hPB _ (hPC _ HFC.out.now).1).2.2 HEE.out).mono ?_); rintro e_ w28 ⟨rfl, hb_⟩; refine ⟨_, rfl, ?_⟩; (try clear hca_0 hfa_0 hca_1 hfa_1); (try clear hcb_0 hfb_0 hcb_1 hfb_1); have n0_ := Aside0.mk (HFC.out.below (fun k_ h_ => h_) HN.out hb_); have n5_ := Aside0.mk (Nat.le_trans HN.out hb_.size); have n6_ := Aside0.mk (below_step HB.out hb_); clear HFC HN HB; have HFC := n0_; have HN := n5_; have HB := n6_; clear n0_ n5_ n6_; clear hb_; have hcc_0 : w28.cell? ⟨gb10, 0, none⟩ = some (.slice B100 N'.length d100) := (blk_cell (hPC _ HFC.out.now).2.1 0).trans rfl; have hfc_0 := blk_frozen (hPC _ HFC.out.now).2.1 0; have hcc_1 : w28.cell? ⟨gb10, 1, none⟩ = some (.slice B101 P'.length d101) := (blk_cell (hPC _ HFC.out.now).2.1 1).trans rfl; have hfc_1 := blk_frozen (hPC _ HFC.out.now).2.1 1) | ((with_reducible refine gate_callee (f := 40) rfl ?_); refine goesL_ (some 103) rfl rfl Try.func40 (by kernel_rfl) rfl #[.agg #[.slice B100 N'.length d100, .slice B101 P'.length d101], .int .i64 1] rfl (by (try simp only [List.map_toArray, List.map_cons, List.map_nil]); first | done | rfl) ?_; (refine (held_c k (hPC _ HFC.out.now).2.2 HHD.out).mono ?_); rintro e_ w31 ⟨rfl, hb_⟩; refine ⟨_, rfl, ?_⟩; (try clear hcc_0 hfc_0 hcc_1 hfc_1); have n0_ := Aside0.mk (HFC.out.below (fun k_ h_ => h_) HN.out hb_); have n5_ := Aside0.mk (Nat.le_trans HN.out hb_.size); have n6_ := Aside0.mk (below_step HB.out hb_); clear HFC HN HB; have HFC := n0_; have HN := n5_; have HB := n6_; clear n0_ n5_ n6_; clear hb_))
  go_ret
  exact ⟨rfl, HB.out⟩

end Go.Proofs.Ytnnaiaiddjkjnaa.PFnExactDeskDo
