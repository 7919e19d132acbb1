/- For all arguments the program's ReplacedIn returns what the reference's returns; no condition. -/
import Derived.Test.YtfjfdnododnepaaPFnExactReplacedInx11
namespace Go.Proofs.Ytfjfdnododnepaa.Pure
open Go.RowKit Go.Proofs.Ytfjfdnododnepaa.PFnExactReplacedIn Go.Proofs.YtfjfdnododnepaaW.PrintWords Go.Proofs.YtfjfdnododnepaaW.PrintLast
set_option linter.unusedVariables false
set_option linter.unusedSimpArgs false

/-! pack arith: numbers that do not wrap, and steps of 'from some number of rounds on' -/
theorem w64 {n : Int} (h0 : -9223372036854775808 ≤ n) (h1 : n ≤ 9223372036854775807) : wrap64 n = n := by unfold wrap64; omega
theorem ev_pos {α : Type} {c : Prop} [Decidable c] {a b : Nat → Option α} {r : α} (h : c) (H : Ev a r) : Ev (fun k => if c then a k else b k) r :=
  Ev.congr (fun _ => if_pos h) H
theorem ev_neg {α : Type} {c : Prop} [Decidable c] {a b : Nat → Option α} {r : α} (h : ¬ c) (H : Ev b r) : Ev (fun k => if c then a k else b k) r :=
  Ev.congr (fun _ => if_neg h) H
theorem ev_now {α : Type} {a r : α} (h : a = r) : Ev (fun _ => some a) r := h ▸ Ev.now a
theorem ev_of {α : Type} {o : Option α} {r : α} (h : o = some r) : Ev (fun _ => o) r := ⟨0, fun _ _ => h⟩
theorem ev_bind {α β : Type} {o : Option α} {f : Nat → α → Option β} {a : α} {r : β} (h : o = some a) (k : Ev (fun n => f n a) r) : Ev (fun n => o.bind (f n)) r :=
  Ev.congr (fun n => by rw [h]; rfl) k
theorem ev_eq {α : Type} {g : Nat → Option α} {r r' : α} (h : r = r') (k : Ev g r) : Ev g r' := h ▸ k

/-! pack sread: what the reference's reader says of a sentence -/
theorem sread {L : List Int} {s : ByteArray} {p : PT} (sg : Int) (h0 : -1 ≤ sg) (h1 : sg ≤ 1) (h : pread s = some p) (hL : setsOk L = true) : spec_l7Read.f L s 0 sg [] = some (truv L p, sgns sg p, (s.size : Int)) := by
  obtain ⟨_, _, h80, hp⟩ := psent_top h
  unfold spec_l7Read.f
  rw [if_pos ⟨hL, rfl, h0, h1, by omega, by simp⟩, hp]
  rfl

/-! pack sentmarks: the reference's text of the signs of a sentence -/
def way3 (x : Int) : Prop := x = -1 ∨ x = 0 ∨ x = 1
theorem way3_neg {w : Int} (h : way3 w) : way3 (-w) := by unfold way3 at h ⊢; omega
theorem way3_sig {w f : Int} (h : way3 w) (hf : f = -1 ∨ f = 0 ∨ f = 1) : way3 (w * f) := by
  rcases h with rfl | rfl | rfl <;> rcases hf with rfl | rfl | rfl <;> unfold way3 <;> decide
theorem sgn_way {p : PT} (h : SetT p) : ∀ w : Int, way3 w → ∀ x ∈ sgn w p, way3 x := by
  induction h with
  | leaf => intro w hw x hx; simp only [sgn, List.mem_singleton] at hx; rw [hx]; exact hw
  | one _ ih => intro w hw; exact ih (-w) (way3_neg hw)
  | two _ _ _ ih1 ih2 =>
    intro w hw x hx
    simp only [sgn, List.mem_append] at hx
    exact hx.elim (ih1 w hw x) (ih2 w hw x)
theorem sgns_way {p : PT} (h : SentT p) : ∀ w : Int, way3 w → ∀ x ∈ sgns w p, way3 x := by
  induction h with
  | one _ ih => intro w hw; exact ih (-w) (way3_neg hw)
  | two _ _ _ ih1 ih2 =>
    intro w hw x hx
    simp only [sgns, List.mem_append] at hx
    exact hx.elim (ih1 w hw x) (ih2 w hw x)
  | tri _ _ h1 h2 =>
    intro w hw x hx
    simp only [sgns, List.mem_append] at hx
    exact hx.elim (sgn_way h1 _ (way3_sig hw (sig_range _ _)) x) (sgn_way h2 _ (way3_sig hw (sig_range _ _)) x)
theorem rdmem {l : List Int} {i : Int} (h0 : 0 ≤ i) (h1 : i < (l.length : Int)) : rd l i ∈ l := by
  unfold rd
  rw [List.getD_eq_getElem?_getD, List.getElem?_eq_getElem (by omega)]
  exact List.getElem_mem _
theorem mtx_one (l : List Int) (x : Int) : mtx (l ++ [x]) = mtx l ++ ⟨#[mch x]⟩ := by rw [← mtx_append]; rfl
theorem marks_loop (l : List Int) (hw : ∀ x ∈ l, way3 x) (hl : l.length ≤ 1000000) (d : Nat) : ∀ i : Nat, i + d = l.length → Ev (fun k => spec_MarksOf.l0 k l (mtx (l.take i)) i) (mtx l) := by
  induction d with
  | zero =>
    intro i hi
    refine Ev.step (fun _ => spec_MarksOf.l0.eq_2 _ _ _ _) (ev_neg (by omega) (ev_now ?_))
    rw [List.take_of_length_le (by omega)]
  | succ d ih =>
    intro i hi
    refine Ev.step (fun _ => spec_MarksOf.l0.eq_2 _ _ _ _) (ev_pos (by omega) (ev_bind rfl (ev_pos (by omega) ?_)))
    have hx := hw _ (rdmem (l := l) (i := (i : Int)) (by omega) (by omega))
    have ht : l.take (i + 1) = l.take i ++ [rd l (i : Int)] := by
      rw [List.take_succ_eq_append_getElem (by omega)]
      unfold rd
      rw [Int.toNat_natCast, List.getD_eq_getElem?_getD, List.getElem?_eq_getElem (by omega)]
      rfl
    have hn := ih (i + 1) (by omega)
    rw [ht, mtx_one] at hn
    have hsz : (mtx (l.take i)).size ≤ 1000000 := by rw [mtx_size, List.length_take]; omega
    obtain ⟨X, hX⟩ : ∃ X, rd l (i : Int) = X := ⟨_, rfl⟩
    rw [hX] at hx hn ⊢
    rcases hx with rfl | rfl | rfl
    · rw [show wrap64 (-1 + 1) = 0 by unfold wrap64; omega]
      refine ev_pos (by decide) (ev_pos (by decide) (ev_pos ?_ ?_))
      · show (mtx (l.take i)).size + 1 ≤ _; omega
      · rw [w64 (by omega) (by omega)]; exact hn
    · rw [show wrap64 (0 + 1) = 1 by unfold wrap64; omega]
      refine ev_pos (by decide) (ev_pos (by decide) (ev_pos ?_ ?_))
      · show (mtx (l.take i)).size + 1 ≤ _; omega
      · rw [w64 (by omega) (by omega)]; exact hn
    · rw [show wrap64 (1 + 1) = 2 by unfold wrap64; omega]
      refine ev_pos (by decide) (ev_pos (by decide) (ev_pos ?_ ?_))
      · show (mtx (l.take i)).size + 1 ≤ _; omega
      · rw [w64 (by omega) (by omega)]; exact hn
/-- the signs of a text that is a sentence -/
def markM (s : ByteArray) : ByteArray := match pread s with | none => ⟨#[]⟩ | some p => mtx (sgns 1 p)
theorem smarks (s : ByteArray) (hs : s.size ≤ 17000000000000) : Ev (fun k => spec_MarksOf.f k s) (markM s) := by
  unfold spec_MarksOf.f
  have hk : spec_SentenceOk.f s = some (pread s).isSome := by unfold spec_SentenceOk.f; rw [if_pos hs]
  refine ev_bind hk ?_
  unfold markM
  cases hp : pread s with
  | none => exact ev_neg (by simp) (ev_now rfl)
  | some p =>
    obtain ⟨ht, hl, _, _⟩ := psent_top hp
    refine ev_pos rfl (ev_bind (sread 1 (by decide) (by decide) hp (by decide)) ?_)
    have hlen : (sgns 1 p).length ≤ 1000000 := by rw [sgns_len _ ht]; omega
    exact marks_loop (sgns 1 p) (sgns_way ht 1 (by unfold way3; omega)) hlen (sgns 1 p).length 0 (by omega)

/-! pack place: where the reference finds a letter -/
def dp (b deep : Int) : Int := if b = 40 then deep + 1 else if b = 41 then deep - 1 else deep
def hit (b deep : Int) : Prop := 0 < deep ∧ 97 ≤ b ∧ b ≤ 100
section
variable {s : ByteArray} {num cnt deep r : Int} {i : Nat}
theorem pl_j2 (hi : i < s.size) (x8 : Bool) : Ev (fun k => spec_l7Place.j3 k s num cnt deep i (x8 && decide (97 ≤ bt s i ∧ bt s i ≤ 100))) r → Ev (fun k => spec_l7Place.j2 k s num cnt deep i x8) r := by
  intro h
  refine Ev.step (fun _ => spec_l7Place.j2.eq_2 _ _ _ _ _ _ _) ?_
  cases x8 with
  | false => exact ev_neg (by simp) h
  | true =>
    refine ev_pos rfl (ev_pos (by omega) (ev_pos (by omega) ?_))
    by_cases c : bt s i ≥ 97
    · refine ev_pos c ?_
      rw [show decide (bt s (i : Int) < 101) = (true && decide (97 ≤ bt s i ∧ bt s i ≤ 100)) by rw [Bool.true_and, Bool.eq_iff_iff]; simp; omega]
      exact h
    · refine ev_neg c ?_
      rw [show false = (true && decide (97 ≤ bt s i ∧ bt s i ≤ 100)) by rw [Bool.true_and, Bool.eq_iff_iff]; simp; omega]
      exact h
theorem pl_l0 (hi : i < s.size) (hs : s.size ≤ 100000) (h0 : 0 ≤ deep) (h1 : deep ≤ 100000) : Ev (fun k => spec_l7Place.j3 k s num cnt (dp (bt s i) deep) i (decide (0 < deep) && decide (97 ≤ bt s i ∧ bt s i ≤ 100))) r → Ev (fun k => spec_l7Place.l0 k s num cnt deep i) r := by
  intro h
  refine Ev.step (fun _ => spec_l7Place.l0.eq_2 _ _ _ _ _ _) (ev_pos (by omega) (ev_pos (by omega) ?_))
  by_cases c : bt s i = 40
  · refine ev_pos c (Ev.step (fun _ => spec_l7Place.j1.eq_2 _ _ _ _ _ _ _) (ev_pos (by omega) (ev_pos (by omega) (ev_neg (by omega) ?_))))
    rw [w64 (by omega) (by omega)]
    unfold dp at h
    rw [if_pos c] at h
    exact pl_j2 hi _ h
  · refine ev_neg c (Ev.step (fun _ => spec_l7Place.j1.eq_2 _ _ _ _ _ _ _) (ev_pos (by omega) (ev_pos (by omega) ?_)))
    unfold dp at h
    rw [if_neg c] at h
    by_cases c2 : bt s i = 41
    · rw [if_pos c2] at h
      refine ev_pos c2 ?_
      rw [w64 (by omega) (by omega)]
      exact pl_j2 hi _ h
    · rw [if_neg c2] at h
      exact ev_neg c2 (pl_j2 hi _ h)
/-- one byte: a letter that is sought -/
theorem pl_hit (hi : i < s.size) (hs : s.size ≤ 100000) (h0 : 0 ≤ deep) (h1 : deep ≤ 100000) (hh : hit (bt s i) deep) (hn : cnt = num) : Ev (fun k => spec_l7Place.l0 k s num cnt deep i) (i : Int) := by
  refine pl_l0 hi hs h0 h1 (Ev.step (fun _ => spec_l7Place.j3.eq_2 _ _ _ _ _ _ _) (ev_pos ?_ (ev_pos hn (ev_now rfl))))
  simp only [Bool.and_eq_true, decide_eq_true_eq]
  exact ⟨hh.1, hh.2⟩
/-- another letter -/
theorem pl_next (hi : i < s.size) (hs : s.size ≤ 100000) (h0 : 0 ≤ deep) (h1 : deep ≤ 100000) (hc0 : 0 ≤ cnt) (hc1 : cnt ≤ 100000) (hh : hit (bt s i) deep) (hn : cnt ≠ num) (h : Ev (fun k => spec_l7Place.l0 k s num (cnt + 1) deep ((i + 1 : Nat) : Int)) r) : Ev (fun k => spec_l7Place.l0 k s num cnt deep i) r := by
  refine pl_l0 hi hs h0 h1 (Ev.step (fun _ => spec_l7Place.j3.eq_2 _ _ _ _ _ _ _) (ev_pos ?_ (ev_neg hn ?_)))
  · simp only [Bool.and_eq_true, decide_eq_true_eq]
    exact ⟨hh.1, hh.2⟩
  · rw [w64 (by omega) (by omega), w64 (by omega) (by omega)]
    have hd : dp (bt s i) deep = deep := by unfold dp; rw [if_neg (by have := hh.2; omega), if_neg (by have := hh.2; omega)]
    rw [hd]
    exact h
/-- no letter -/
theorem pl_pass (hi : i < s.size) (hs : s.size ≤ 100000) (h0 : 0 ≤ deep) (h1 : deep ≤ 100000) (hh : ¬ hit (bt s i) deep) (h : Ev (fun k => spec_l7Place.l0 k s num cnt (dp (bt s i) deep) ((i + 1 : Nat) : Int)) r) : Ev (fun k => spec_l7Place.l0 k s num cnt deep i) r := by
  refine pl_l0 hi hs h0 h1 (Ev.step (fun _ => spec_l7Place.j3.eq_2 _ _ _ _ _ _ _) (ev_neg ?_ ?_))
  · simp only [Bool.and_eq_true, decide_eq_true_eq]
    exact hh
  · rw [w64 (by omega) (by omega)]
    exact h
end
/-- a part is scanned: the letter is found in it, or it goes on behind it -/
def Scan (s : ByteArray) (p : PT) (a e : Nat) (deep : Int) : Prop := ∀ (num cnt : Int), 0 ≤ cnt → cnt ≤ a → cnt ≤ num →
  (num < cnt + lvs p → Ev (fun k => spec_l7Place.l0 k s num cnt deep (a : Int)) (rd (plcs p) (num - cnt))) ∧
  (cnt + lvs p ≤ num → ∀ r, Ev (fun k => spec_l7Place.l0 k s num (cnt + lvs p) deep (e : Int)) r → Ev (fun k => spec_l7Place.l0 k s num cnt deep (a : Int)) r)
theorem rd_app1 {l m : List Int} {i : Int} (h0 : 0 ≤ i) (h : i < (l.length : Int)) : rd (l ++ m) i = rd l i := by
  unfold rd
  rw [List.getD_eq_getElem?_getD, List.getD_eq_getElem?_getD, List.getElem?_append_left (by omega)]
theorem rd_app2 {l m : List Int} {i : Int} (h0 : 0 ≤ i) (h : (l.length : Int) ≤ i) : rd (l ++ m) i = rd m (i - l.length) := by
  unfold rd
  rw [List.getD_eq_getElem?_getD, List.getD_eq_getElem?_getD, List.getElem?_append_right (by omega)]
  congr 2
  omega
theorem scan_pass {s : ByteArray} {p : PT} {a e : Nat} {deep : Int} (hs : s.size ≤ 100000) (ha : a < s.size) (h0 : 0 ≤ deep) (h1 : deep ≤ 100000) (hh : ¬ hit (bt s a) deep) (hd : dp (bt s a) deep = deep) (h : Scan s p (a + 1) e deep) : Scan s p a e deep := by
  intro num cnt c0 c1 c2
  obtain ⟨h2, h3⟩ := h num cnt c0 (by omega) c2
  refine ⟨fun k => pl_pass ha hs h0 h1 hh (by rw [hd]; exact h2 k), fun k r hr => pl_pass ha hs h0 h1 hh (by rw [hd]; exact h3 k r hr)⟩
/-- two parts with a byte between them -/
theorem scan_two {s : ByteArray} {x y : PT} {a a1 e : Nat} {deep : Int} (hs : s.size ≤ 100000) (h0 : 0 ≤ deep) (h1 : deep ≤ 100000) (ha1 : a1 < s.size) (hl : lvs x + a ≤ a1) (hh : ¬ hit (bt s a1) deep) (hd : dp (bt s a1) deep = deep) (hx : Scan s x a a1 deep) (hy : Scan s y (a1 + 1) e deep) :
    ∀ (num cnt : Int), 0 ≤ cnt → cnt ≤ a → cnt ≤ num →
      (num < cnt + (lvs x + lvs y : Nat) → Ev (fun k => spec_l7Place.l0 k s num cnt deep (a : Int)) (rd (plcs x ++ plcs y) (num - cnt))) ∧
      (cnt + (lvs x + lvs y : Nat) ≤ num → ∀ r, Ev (fun k => spec_l7Place.l0 k s num (cnt + (lvs x + lvs y : Nat)) deep (e : Int)) r → Ev (fun k => spec_l7Place.l0 k s num cnt deep (a : Int)) r) := by
  intro num cnt c0 c1 c2
  obtain ⟨k1, k2⟩ := hx num cnt c0 c1 c2
  have hlx := plcs_len x
  by_cases c : num < cnt + lvs x
  · refine ⟨fun _ => ?_, fun h => absurd h (by omega)⟩
    rw [rd_app1 (by omega) (by omega)]
    exact k1 c
  · have k3 := k2 (by omega)
    obtain ⟨k4, k5⟩ := hy num (cnt + lvs x) (by omega) (by omega) (by omega)
    refine ⟨fun h => ?_, fun h r hr => ?_⟩
    · rw [rd_app2 (by omega) (by omega)]
      refine k3 _ (pl_pass ha1 hs h0 h1 hh ?_)
      rw [hd, show num - cnt - ((plcs x).length : Int) = num - (cnt + lvs x) by omega]
      exact k4 (by omega)
    · refine k3 _ (pl_pass ha1 hs h0 h1 hh ?_)
      rw [hd]
      refine k5 (by omega) r ?_
      rw [show cnt + (lvs x : Int) + (lvs y : Int) = cnt + ((lvs x + lvs y : Nat) : Int) by omega]
      exact hr
theorem nohit {b deep : Int} (h : b < 97 ∨ 100 < b ∨ deep ≤ 0) : ¬ hit b deep := fun hh => by have := hh.1; have := hh.2; omega
theorem dp_same {b deep : Int} (h : b ≠ 40) (h2 : b ≠ 41) : dp b deep = deep := by unfold dp; rw [if_neg h, if_neg h2]
theorem scan_set (s : ByteArray) (hs : s.size ≤ 100000) : ∀ (n a : Nat) (p : PT) (e : Nat) (deep : Int), a ≤ s.size → pset n s a = some (p, e) → 1 ≤ deep → deep ≤ a → Scan s p a e deep
  | 0, a, p, e, deep, _, h, _, _ => by cases h
  | n + 1, a, p, e, deep, ha, h, h1, h2 => by
    unfold pset at h
    split at h
    · rename_i c
      obtain ⟨k1, k2⟩ := nxt_pos ha (show (nxt s a).1 ≠ 0 by omega)
      rw [nxt_lt k1] at h c
      simp only at h c
      injection h with h
      injection h with h h'
      subst h; subst h'
      have hh : hit (bt s a) deep := ⟨by omega, c⟩
      intro num cnt c0 c1 c2
      refine ⟨fun hk => ?_, fun hk r hr => ?_⟩
      · have hc : cnt = num := by simp only [lvs] at hk; omega
        subst hc
        rw [show cnt - cnt = 0 by omega]
        exact pl_hit k1 hs (by omega) (by omega) hh rfl
      · exact pl_next k1 hs (by omega) (by omega) c0 (by omega) hh (by simp only [lvs] at hk; omega) hr
    · split at h
      · rename_i c
        obtain ⟨k1, k2⟩ := nxt_pos ha (show (nxt s a).1 ≠ 0 by omega)
        rw [nxt_lt k1] at c
        simp only at c
        cases h3 : pset n s (a + 1) with
        | none => rw [h3] at h; cases h
        | some r =>
          obtain ⟨x, e'⟩ := r
          rw [h3] at h
          injection h with h
          injection h with h h'
          subst h; subst h'
          exact scan_pass (p := x) hs k1 (by omega) (by omega) (nohit (by omega)) (dp_same (by omega) (by omega)) (scan_set s hs n (a + 1) x _ deep k1 h3 h1 (by omega))
      · split at h
        · rename_i c
          obtain ⟨k1, k2⟩ := nxt_pos ha (show (nxt s a).1 ≠ 0 by omega)
          rw [nxt_lt k1] at c
          simp only at c
          obtain ⟨x, y, a1, a3, q1, q2, q3, q4, q5, q6⟩ := ptwo_two h
          have p1 := pset_place s n _ _ _ k1 q1
          obtain ⟨p2, p3⟩ := nxt_pos p1.2 (show (nxt s a1).1 ≠ 0 by omega)
          rw [p3] at q2
          rw [nxt_lt p2] at q3
          simp only at q3
          have p4 := pset_place s n _ _ _ p2 q2
          obtain ⟨p5, p6⟩ := nxt_pos p4.2 (show (nxt s a3).1 ≠ 0 by omega)
          rw [p6] at q6
          rw [nxt_lt p5] at q4
          simp only at q4
          have pl := (pset_ok s n _ _ _ k1 q1).2
          have pm := (pset_ok s n _ _ _ p2 q2).2
          subst q5; subst q6
          have hx := scan_set s hs n (a + 1) x a1 (deep + 1) k1 q1 (by omega) (by omega)
          have hy := scan_set s hs n (a1 + 1) y a3 (deep + 1) p2 q2 (by omega) (by omega)
          have hxy := scan_two (e := a3) hs (by omega) (by omega) p2 pl (nohit (by omega)) (dp_same (by omega) (by omega)) hx hy
          intro num cnt c0 c1 c2
          obtain ⟨m1, m2⟩ := hxy num cnt c0 (by omega) c2
          have hd0 : dp (bt s a) deep = deep + 1 := by unfold dp; rw [if_pos c]
          have hd3 : dp (bt s a3) (deep + 1) = deep := by unfold dp; rw [if_neg (by omega), if_pos q4]; omega
          refine ⟨fun hk => pl_pass k1 hs (by omega) (by omega) (nohit (by omega)) (by rw [hd0]; exact m1 hk), fun hk r hr => pl_pass k1 hs (by omega) (by omega) (nohit (by omega)) (by rw [hd0]; exact m2 hk r (pl_pass p5 hs (by omega) (by omega) (nohit (by omega)) (by rw [hd3]; exact hr)))⟩
        · cases h
theorem nms_bytes : ∀ e ∈ nms, ∀ b ∈ e.1, b ≠ 41 ∧ b ≠ 40 := by decide +kernel
/-- the bytes of a name -/
theorem name_bytes {s : ByteArray} {a o : Nat} {t : List Int} (ha : a ≤ o) (ho : o ≤ s.size) (h : ntri (s.extract a o) = some t) (i : Nat) (h1 : a ≤ i) (h2 : i < o) : bt s (i : Int) ≠ 41 ∧ bt s (i : Int) ≠ 40 := by
  have hm := ntri_some h
  have hx : (s.extract a o).data.toList = (s.data.toList.take o).drop a := ext_toList s a o
  rw [hx] at hm
  have hl : s.data.toList.length = s.size := by rw [Array.length_toList]; rfl
  have hb : s.data.toList.getD i 0 ∈ (s.data.toList.take o).drop a := by
    rw [List.getD_eq_getElem?_getD, List.getElem?_eq_getElem (by omega)]
    rw [List.mem_iff_getElem?]
    refine ⟨i - a, ?_⟩
    rw [List.getElem?_drop, List.getElem?_take, if_pos (by omega), show a + (i - a) = i by omega, List.getElem?_eq_getElem (by omega)]
    rfl
  have hq := nms_bytes _ hm _ hb
  rw [bt_getD]
  constructor
  · intro he; exact hq.1 (UInt8.toNat.inj (by show _ = 41; omega))
  · intro he; exact hq.2 (UInt8.toNat.inj (by show _ = 40; omega))
theorem scan_name {s : ByteArray} (hs : s.size ≤ 100000) {num cnt r : Int} (o : Nat) (ho : o ≤ s.size) (d : Nat) : ∀ i : Nat, i + d = o → (∀ j : Nat, i ≤ j → j < o → bt s (j : Int) ≠ 41 ∧ bt s (j : Int) ≠ 40) → Ev (fun k => spec_l7Place.l0 k s num cnt 0 (o : Int)) r → Ev (fun k => spec_l7Place.l0 k s num cnt 0 (i : Int)) r := by
  induction d with
  | zero => intro i hi _ h; rw [show i = o by omega]; exact h
  | succ d ih =>
    intro i hi hb h
    have hbi := hb i (Nat.le_refl _) (by omega)
    refine pl_pass (by omega) hs (by omega) (by omega) (nohit (by omega)) ?_
    rw [dp_same hbi.2 hbi.1]
    exact ih (i + 1) (by omega) (fun j h1 h2 => hb j (by omega) h2) h
theorem scan_sent (s : ByteArray) (hs : s.size ≤ 100000) : ∀ (n a : Nat) (p : PT) (e : Nat), a ≤ s.size → psent n s a = some (p, e) → Scan s p a e 0
  | 0, a, p, e, _, h => by cases h
  | n + 1, a, p, e, ha, h => by
    by_cases c1 : (nxt s a).1 = 126
    · unfold psent at h
      rw [if_pos c1] at h
      obtain ⟨k1, k2⟩ := nxt_pos ha (show (nxt s a).1 ≠ 0 by omega)
      rw [nxt_lt k1] at c1
      simp only at c1
      cases h3 : psent n s (a + 1) with
      | none => rw [h3] at h; cases h
      | some r =>
        obtain ⟨x, e'⟩ := r
        rw [h3] at h
        injection h with h
        injection h with h h'
        subst h; subst h'
        exact scan_pass (p := x) hs k1 (by omega) (by omega) (nohit (by omega)) (dp_same (by omega) (by omega)) (scan_sent s hs n (a + 1) x _ k1 h3)
    · by_cases c : (nxt s a).1 = 91
      · unfold psent at h
        rw [if_neg c1, if_pos c] at h
        obtain ⟨k1, k2⟩ := nxt_pos ha (show (nxt s a).1 ≠ 0 by omega)
        rw [nxt_lt k1] at c
        simp only at c
        obtain ⟨x, y, a1, a3, q1, q2, q3, q4, q5, q6⟩ := ptwo_two h
        have p1 := psent_place s n _ _ _ k1 q1
        obtain ⟨p2, p3⟩ := nxt_pos p1.2 (show (nxt s a1).1 ≠ 0 by omega)
        rw [p3] at q2
        rw [nxt_lt p2] at q3
        simp only at q3
        have p4 := psent_place s n _ _ _ p2 q2
        obtain ⟨p5, p6⟩ := nxt_pos p4.2 (show (nxt s a3).1 ≠ 0 by omega)
        rw [p6] at q6
        rw [nxt_lt p5] at q4
        simp only at q4
        have pl := (psent_ok s n _ _ _ k1 q1).2
        subst q5; subst q6
        have hx := scan_sent s hs n (a + 1) x a1 k1 q1
        have hy := scan_sent s hs n (a1 + 1) y a3 p2 q2
        have hxy := scan_two (e := a3) hs (by omega) (by omega) p2 pl (nohit (by omega)) (dp_same (by omega) (by omega)) hx hy
        intro num cnt c0 c1 c2
        obtain ⟨m1, m2⟩ := hxy num cnt c0 (by omega) c2
        refine ⟨fun hk => pl_pass k1 hs (by omega) (by omega) (nohit (by omega)) (by rw [dp_same (by omega) (by omega)]; exact m1 hk), fun hk r hr => pl_pass k1 hs (by omega) (by omega) (nohit (by omega)) (by rw [dp_same (by omega) (by omega)]; exact m2 hk r (pl_pass p5 hs (by omega) (by omega) (nohit (by omega)) (by rw [dp_same (by omega) (by omega)]; exact hr)))⟩
      · rw [psent_tri c1 c] at h
        unfold ptri at h
        split at h
        · cases h
        · rename_i hn
          obtain ⟨o, o1, o2, o3, o4⟩ := open_spec s a ha
          rcases o4 with ⟨o4, _⟩ | ⟨_, o5, o6, o7⟩
          · exact absurd o4 hn
          · rw [← o5] at h
            cases h0 : ntri (s.extract a o) with
            | none => rw [h0] at h; cases h
            | some t =>
              rw [h0] at h
              simp only at h
              cases hq : ptwo (pset (s.size + 1) s) [44] 41 s (o + 1) with
              | none => rw [hq] at h; cases h
              | some r =>
                obtain ⟨r1, r2⟩ := r
                obtain ⟨x, y, a1, a3, q1, q2, q3, q4, q5, q6⟩ := ptwo_44 hq
                have p1 := pset_place s _ _ _ _ (show o + 1 ≤ s.size by omega) q1
                obtain ⟨p2, p3⟩ := nxt_pos p1.2 (show (nxt s a1).1 ≠ 0 by omega)
                rw [p3] at q2
                rw [nxt_lt p2] at q3
                simp only at q3
                have p4 := pset_place s _ _ _ _ p2 q2
                obtain ⟨p5, p6⟩ := nxt_pos p4.2 (show (nxt s a3).1 ≠ 0 by omega)
                rw [p6] at q6
                rw [nxt_lt p5] at q4
                simp only at q4
                have pl := (pset_ok s _ _ _ _ (show o + 1 ≤ s.size by omega) q1).2
                subst q5; subst q6
                rw [hq] at h
                simp only at h
                injection h with h
                injection h with h h'
                subst h; subst h'
                have hx := scan_set s hs _ (o + 1) x a1 1 (by omega) q1 (by omega) (by omega)
                have hy := scan_set s hs _ (a1 + 1) y a3 1 p2 q2 (by omega) (by omega)
                have hxy := scan_two (e := a3) hs (by omega) (by omega) p2 pl (nohit (by omega)) (dp_same (by omega) (by omega)) hx hy
                have hd0 : dp (bt s o) 0 = 1 := by unfold dp; rw [if_pos o7]; rfl
                have hd3 : dp (bt s a3) 1 = 0 := by unfold dp; rw [if_neg (by omega), if_pos q4]; rfl
                intro num cnt c0 c1 c2
                obtain ⟨m1, m2⟩ := hxy num cnt c0 (by omega) c2
                have hnb := fun (j : Nat) h1 h2 => name_bytes o1 o2 h0 j h1 h2
                refine ⟨fun hk => scan_name hs o o2 (o - a) a (by omega) hnb (pl_pass o6 hs (by omega) (by omega) (nohit (by omega)) (by rw [hd0]; exact m1 hk)), fun hk r hr => scan_name hs o o2 (o - a) a (by omega) hnb (pl_pass o6 hs (by omega) (by omega) (nohit (by omega)) (by rw [hd0]; exact m2 hk r (pl_pass p5 hs (by omega) (by omega) (nohit (by omega)) (by rw [hd3]; exact hr))))⟩
/-- the place of a letter of a sentence -/
theorem splace {s : ByteArray} {p : PT} (h : pread s = some p) {num : Int} (h0 : 0 ≤ num) (h1 : num < (lvs p : Int)) : Ev (fun k => spec_l7Place.f k s num) (rd (plcs p) num) := by
  obtain ⟨_, _, h80, hp⟩ := psent_top h
  unfold spec_l7Place.f
  have := (scan_sent s (by omega) _ 0 p s.size (by omega) hp num 0 (by omega) (by omega) h0).1 (by omega)
  rw [show num - 0 = num by omega] at this
  exact this

/-! pack l1marks: bounds, and how many signs there are -/
theorem l1in (n lo hi : Int) : spec_l1In.f n lo hi = some (decide (lo ≤ n ∧ n ≤ hi)) := by
  unfold spec_l1In.f
  by_cases h : n ≥ lo
  · rw [if_pos h]; congr 1; rw [Bool.eq_iff_iff]; simp; omega
  · rw [if_neg h]; congr 1; rw [Bool.eq_iff_iff]; simp; omega
theorem markM_size {s : ByteArray} {p : PT} (h : pread s = some p) : (markM s).size = lvs p := by
  unfold markM
  rw [h]
  simp only
  rw [mtx_size, sgns_len _ (psent_top h).1]

/-! pack replaced: the reference's replacing -/
theorem lch_all : ∀ v : Fin 4, rdOf ByteArray.empty ([(⟨#[97]⟩ : ByteArray), (⟨#[98]⟩ : ByteArray), (⟨#[99]⟩ : ByteArray), (⟨#[100]⟩ : ByteArray)] : List ByteArray) (v.val : Int) = lch v.val ∧ (lch (v.val : Int)).size = 1 := by decide +kernel
theorem lch_eq {n : Int} (h0 : 0 ≤ n) (h1 : n < 4) : rdOf ByteArray.empty ([(⟨#[97]⟩ : ByteArray), (⟨#[98]⟩ : ByteArray), (⟨#[99]⟩ : ByteArray), (⟨#[100]⟩ : ByteArray)] : List ByteArray) n = lch n ∧ (lch n).size = 1 := by
  obtain ⟨v, rfl⟩ := Int.eq_ofNat_of_zero_le h0
  exact lch_all ⟨v, by omega⟩
theorem wnext {x : Nat} (h : x ≤ 17000000000000) : wrap64 ((x : Int) + 1) = ((x + 1 : Nat) : Int) := by unfold wrap64; omega
theorem irepl (s : ByteArray) (n l : Int) : impl_ReplacedIn.f s n l = some (impl_ReplacedIn.g s n l) := rfl
theorem srepl (s : ByteArray) (n l : Int) (hs : s.size ≤ 17000000000000) : Ev (fun k => spec_ReplacedIn.f k s n l) (impl_ReplacedIn.g s n l) := by
  unfold spec_ReplacedIn.f impl_ReplacedIn.g
  have hk : spec_SentenceOk.f s = some (pread s).isSome := by unfold spec_SentenceOk.f; rw [if_pos hs]
  refine ev_bind hk ?_
  cases hp : pread s with
  | none => exact ev_neg (by simp) (ev_now rfl)
  | some p =>
    have hl := (psent_top hp).2.1
    have hm := markM_size hp
    simp only
    refine ev_pos rfl (Ev.bind (smarks s hs) (ev_bind (l1in _ _ _) ?_))
    rw [hm, w64 (by omega) (by omega)]
    by_cases c : 0 ≤ n ∧ n < (lvs p : Int)
    · refine ev_pos (by simp; omega) (ev_bind (l1in _ _ _) ?_)
      by_cases d : 0 ≤ l ∧ l < 4
      · have hx := leafs_at (top_leafs hp) (rd (plcs p) n) (rd_mem c.1 (by rw [plcs_len]; exact c.2))
        rw [if_pos d, if_pos c]
        refine ev_pos (by simp; omega) (Ev.bind (splace hp c.1 c.2) ?_)
        obtain ⟨X, hX⟩ : ∃ X, rd (plcs p) n = X := ⟨_, rfl⟩
        rw [hX] at hx ⊢
        obtain ⟨x, rfl⟩ := Int.eq_ofNat_of_zero_le hx.1
        obtain ⟨e1, e2⟩ := lch_eq d.1 d.2
        have e3 : (s.extract 0 ((x : Int)).toNat).size = x := by rw [ByteArray.size_extract, Int.toNat_natCast]; omega
        have hx17 : x ≤ 17000000000000 := by omega
        have e5 : (s.extract (((x + 1 : Nat) : Int)).toNat s.size).size = s.size - (x + 1) := by rw [ByteArray.size_extract, Int.toNat_natCast]; omega
        refine ev_pos hx.1 (ev_pos (by omega) (ev_bind rfl (ev_pos d.1 (ev_pos (by simp; omega) ?_))))
        rw [e1, wnext hx17]
        refine ev_pos (by rw [e2, e3]; omega) (ev_pos (by omega) (ev_pos (by omega) (ev_pos (by rw [e2, e3, e5]; omega) (ev_now ?_))))
        unfold repl
        rw [Int.toNat_natCast, Int.toNat_natCast]
      · rw [if_neg d]
        exact ev_neg (by simp; omega) (ev_now rfl)
    · have hn : (if 0 ≤ l ∧ l < 4 then (if 0 ≤ n ∧ n < (lvs p : Int) then (repl s (rd (plcs p) n) l, true) else ((⟨#[]⟩ : ByteArray), false)) else ((⟨#[]⟩ : ByteArray), false)) = ((⟨#[]⟩ : ByteArray), false) := by
        rw [if_neg c]; split <;> rfl
      rw [hn]
      exact ev_neg (by simp; omega) (ev_now rfl)

theorem FnExactReplacedIn : laws_FnExactReplacedIn.Pure := by
  intro a0 a1 a2 _ _ _
  refine Ev.rounds (g := fun k => laws_FnExactReplacedIn.f k a0 a1 a2) ?_
  unfold laws_FnExactReplacedIn.f
  by_cases h : (a0.size : Int) > 1048576
  · exact ev_pos h (ev_now rfl)
  · exact ev_neg h (Ev.bind (srepl a0 a1 a2 (by omega)) (ev_bind (irepl a0 a1 a2) (ev_pos rfl (ev_neg (by simp) (ev_now rfl)))))

end Go.Proofs.Ytfjfdnododnepaa.Pure
