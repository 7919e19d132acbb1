import Derived.Test.YtjlebmnlphjjoaaGreatDoorJb
set_option linter.unusedVariables false
set_option linter.unusedSimpArgs false
/- Which deed a text tells, as both read it; no condition. -/
open Go Go.Proofs.YtjlebmnlphjjoaaGreatDoor.Abs
namespace Go.Proofs.YtjlebmnlphjjoaaGreatDoor.Fx
set_option maxRecDepth 100000
set_option maxHeartbeats 4000000
set_option linter.unusedSimpArgs false
set_option linter.unusedVariables false
theorem ba_ext {a b : ByteArray} (h : a.data.toList = b.data.toList) : a = b := by
  obtain ⟨⟨x⟩⟩ := a
  obtain ⟨⟨y⟩⟩ := b
  exact congrArg (fun l => ByteArray.mk ⟨l⟩) h
theorem ex_list (s : ByteArray) (a b : Nat) : (s.extract a b).data.toList = (s.data.toList.take b).drop a := by
  simp [ByteArray.data_extract, Array.toList_extract, List.extract_eq_take_drop, List.drop_take]
theorem len_list (s : ByteArray) : s.data.toList.length = s.size := by simp
theorem tx_list (l : List Nat) : (tx l).data.toList = l.map UInt8.ofNat := by unfold tx; simp
theorem app_list (a b : ByteArray) : (a ++ b).data.toList = a.data.toList ++ b.data.toList := by simp
/-- Where a text is parted at its first byte c. -/
def cutAt (s : ByteArray) (c : UInt8) : ByteArray × ByteArray × Bool :=
  if 0 ≤ Lib.indexByte s.data.toList c then (s.extract 0 (Lib.indexByte s.data.toList c).toNat, s.extract ((Lib.indexByte s.data.toList c).toNat + 1) s.size, true) else (s, tx [], false)
theorem idx_app (c : UInt8) (l2 : List UInt8) : ∀ l1 : List UInt8, (∀ x ∈ l1, x ≠ c) → Lib.indexByte (l1 ++ c :: l2) c = (l1.length : Int)
  | [], _ => by simp [Lib.indexByte]
  | b :: r, h => by
    have hb := h b List.mem_cons_self
    have ih := idx_app c l2 r (fun x hx => h x (List.mem_cons_of_mem _ hx))
    show Lib.indexByte (b :: (r ++ c :: l2)) c = _
    unfold Lib.indexByte
    rw [if_neg (by simpa using hb), ih, if_neg (by rw [beq_iff_eq]; omega)]
    simp
theorem idx_cases (c : UInt8) : ∀ l : List UInt8, (Lib.indexByte l c = -1 ∧ ∀ x ∈ l, x ≠ c) ∨ ∃ l1 l2, l = l1 ++ c :: l2 ∧ (∀ x ∈ l1, x ≠ c) ∧ Lib.indexByte l c = (l1.length : Int)
  | [] => .inl ⟨rfl, by simp⟩
  | b :: r => by
    by_cases hb : b = c
    · subst hb
      exact .inr ⟨[], r, rfl, by simp, by simp [Lib.indexByte]⟩
    · rcases idx_cases c r with ⟨h1, h2⟩ | ⟨l1, l2, h1, h2, h3⟩
      · refine .inl ⟨?_, fun x hx => ?_⟩
        · unfold Lib.indexByte
          rw [if_neg (by simpa using hb), h1]; rfl
        · rcases List.mem_cons.1 hx with rfl | hx
          · exact hb
          · exact h2 x hx
      · refine .inr ⟨b :: l1, l2, by rw [h1]; rfl, fun x hx => ?_, ?_⟩
        · rcases List.mem_cons.1 hx with rfl | hx
          · exact hb
          · exact h2 x hx
        · rw [h1]
          exact idx_app c l2 (b :: l1) (fun x hx => by
            rcases List.mem_cons.1 hx with rfl | hx
            · exact hb
            · exact h2 x hx)
theorem cut_none {s : ByteArray} {c : UInt8} (h : Lib.indexByte s.data.toList c = -1) : cutAt s c = (s, tx [], false) := by
  unfold cutAt; rw [h, if_neg (by omega)]
theorem cut_some {s : ByteArray} {c : UInt8} {i : Nat} (h : Lib.indexByte s.data.toList c = (i : Int)) : cutAt s c = (s.extract 0 i, s.extract (i + 1) s.size, true) := by
  unfold cutAt; rw [h, if_pos (by omega), Int.toNat_natCast]
theorem cut_line (d rest : ByteArray) (c : UInt8) (h : ∀ x ∈ d.data.toList, x ≠ c) : cutAt ((d ++ ⟨#[c]⟩) ++ rest) c = (d, rest, true) := by
  have hl : ((d ++ ⟨#[c]⟩) ++ rest).data.toList = d.data.toList ++ c :: rest.data.toList := by rw [app_list, app_list]; simp
  have hi := idx_app c rest.data.toList d.data.toList h
  rw [← hl] at hi
  rw [cut_some hi]
  have hs : ((d ++ ⟨#[c]⟩) ++ rest).size = d.data.toList.length + 1 + rest.data.toList.length := by rw [← len_list, hl]; simp; omega
  refine Prod.ext (ba_ext ?_) (Prod.ext (ba_ext ?_) rfl)
  · rw [ex_list, hl, List.take_left]; rfl
  · rw [ex_list, hs, List.take_of_length_le (by rw [hl]; simp; omega), hl, show d.data.toList.length + 1 = (d.data.toList ++ [c]).length by simp, show d.data.toList ++ c :: rest.data.toList = (d.data.toList ++ [c]) ++ rest.data.toList by simp, List.drop_left]
theorem cut_size (s : ByteArray) (c : UInt8) : (cutAt s c).2.1.size ≤ s.size := by
  unfold cutAt
  split
  · show (s.extract _ _).size ≤ _
    rw [ByteArray.size_extract]; omega
  · show (tx []).size ≤ _
    rw [tx_size]; exact Nat.zero_le _
/-- What a text may be the text of. -/
def cand (s : ByteArray) : Deed :=
  if (cutAt s 32).1 = (tx [115, 97, 121]) then ⟨0, 0, (cutAt s 32).2.1⟩
  else if (cutAt s 32).1 = (tx [100, 114, 111, 112]) ∧ (cutAt s 32).2.1.size = 1 then ⟨1, (((cutAt s 32).2.1.data[0]?).getD 0).toNat - 48, tx []⟩
  else if s = (tx [98, 97, 99, 107]) then ⟨2, 0, tx []⟩ else ⟨0, 0, tx []⟩
def rd (s : ByteArray) : Option Deed := if s ≠ tx [] ∧ dB (cand s) = s then some (cand s) else none
def rdo (s : ByteArray) : Deed := (rd s).getD ⟨0, 0, tx []⟩
theorem cand_say (t : ByteArray) : cand ((tx [115, 97, 121, 32]) ++ t) = ⟨0, 0, t⟩ := by
  have e : (tx [115, 97, 121, 32]) ++ t = ((tx [115, 97, 121]) ++ ⟨#[32]⟩) ++ t := ba_ext (by rw [app_list, app_list, app_list, tx_list, tx_list]; rfl)
  have hc := cut_line (tx [115, 97, 121]) t 32 (by rw [tx_list]; decide)
  unfold cand
  rw [e, hc, if_pos rfl]
theorem cand_drop (n : Int) (h0 : 0 ≤ n) (h9 : n ≤ 9) : cand ((tx [100, 114, 111, 112, 32]) ++ dg n) = ⟨1, n, tx []⟩ := by
  have e : (tx [100, 114, 111, 112, 32]) ++ dg n = ((tx [100, 114, 111, 112]) ++ ⟨#[32]⟩) ++ dg n := ba_ext (by rw [app_list, app_list, app_list, tx_list, tx_list]; rfl)
  have hc := cut_line (tx [100, 114, 111, 112]) (dg n) 32 (by rw [tx_list]; decide)
  have hne : ¬ ((tx [100, 114, 111, 112]) = (tx [115, 97, 121])) := fun e => by
    have := congrArg ByteArray.size e
    rw [tx_size, tx_size] at this
    exact absurd this (by decide)
  unfold cand
  rw [e, hc]
  rw [if_neg hne, if_pos ⟨rfl, dg_size n⟩]
  have hd : (dg n).data[0]? = some (UInt8.ofNat (48 + n.toNat)) := by
    have := tx_list [48 + n.toNat]
    rw [← Array.getElem?_toList]
    show (tx [48 + n.toNat]).data.toList[0]? = _
    rw [this]; rfl
  have hv : (UInt8.ofNat (48 + n.toNat)).toNat = 48 + n.toNat := by rw [UInt8.toNat_ofNat']; omega
  simp only [hd, Option.getD_some, hv]
  congr 1
  omega
theorem cand_back : cand (tx [98, 97, 99, 107]) = ⟨2, 0, tx []⟩ := by
  have hi : Lib.indexByte ((tx [98, 97, 99, 107])).data.toList 32 = -1 := by rw [tx_list]; decide +kernel
  have hc := cut_none hi
  unfold cand
  rw [hc]
  have h1 : ¬ ((tx [98, 97, 99, 107]) = (tx [115, 97, 121])) := fun e => by
    have := congrArg ByteArray.size e
    rw [tx_size, tx_size] at this
    exact absurd this (by decide)
  have h2 : ¬ ((tx [98, 97, 99, 107]) = (tx [100, 114, 111, 112])) := fun e => by
    have := congrArg (fun b => b.data.toList) e
    simp only [tx_list] at this
    exact absurd this (by decide +kernel)
  rw [if_neg h1, if_neg (fun e => h2 e.1), if_pos rfl]
theorem dB_cand {a : Deed} {s : ByteArray} (h : dB a = s) (hs : s ≠ tx []) : cand s = a := by
  subst h
  obtain ⟨k, n, t⟩ := a
  unfold dB at hs ⊢
  by_cases h1 : k = 0 ∧ n = 0 ∧ t ≠ tx [] ∧ prF t 0 = true
  · rw [if_pos h1, cand_say]; rw [h1.1, h1.2.1]
  · rw [if_neg h1] at hs ⊢
    by_cases h2 : k = 1 ∧ t = tx [] ∧ 0 ≤ n ∧ n ≤ 9
    · rw [if_pos h2, cand_drop n h2.2.2.1 h2.2.2.2, h2.1, h2.2.1]
    · rw [if_neg h2] at hs ⊢
      by_cases h3 : k = 2 ∧ n = 0 ∧ t = tx []
      · rw [if_pos h3, cand_back, h3.1, h3.2.1, h3.2.2]
      · rw [if_neg h3] at hs; exact absurd rfl hs
theorem rd_of {a : Deed} {s : ByteArray} (h : dB a = s) (hs : s ≠ tx []) : rd s = some a := by
  unfold rd
  rw [dB_cand h hs, if_pos ⟨hs, h⟩]
theorem rd_some {a : Deed} {s : ByteArray} (h : rd s = some a) : dB a = s ∧ s ≠ tx [] := by
  unfold rd at h
  split at h
  · rename_i h1
    simp only [Option.some.injEq] at h; subst h
    exact ⟨h1.2, h1.1⟩
  · cases h
def rdL (s : ByteArray) : List Deed → Option Deed
  | [] => none
  | a :: r => if s ≠ tx [] ∧ dB a = s then some a else rdL s r
def drops (i : Nat) : Nat → List Deed
  | 0 => []
  | r + 1 => ⟨1, (i : Int), tx []⟩ :: drops (i + 1) r
theorem drops_mem : ∀ (r i n : Nat), i ≤ n → n < i + r → (⟨1, (n : Int), tx []⟩ : Deed) ∈ drops i r
  | 0, i, n, h, h2 => absurd h2 (by omega)
  | r + 1, i, n, h, h2 => by
    by_cases e : i = n
    · subst e; exact List.mem_cons_self
    · exact List.mem_cons_of_mem _ (drops_mem r (i + 1) n (by omega) (by omega))
theorem rdL_of {s : ByteArray} : ∀ {X : List Deed} {a : Deed}, rd s = some a → a ∈ X → rdL s X = some a
  | b :: r, a, h, hm => by
    obtain ⟨h1, h2⟩ := rd_some h
    unfold rdL
    by_cases hb : s ≠ tx [] ∧ dB b = s
    · rw [if_pos hb, ← rd_of hb.2 hb.1, h]
    · rw [if_neg hb]
      rcases List.mem_cons.1 hm with rfl | hm
      · exact absurd ⟨h2, h1⟩ hb
      · exact rdL_of h hm
theorem rdL_none {s : ByteArray} (h : rd s = none) : ∀ X : List Deed, rdL s X = none
  | [] => rfl
  | b :: r => by
    unfold rdL
    by_cases hb : s ≠ tx [] ∧ dB b = s
    · rw [rd_of hb.2 hb.1] at h; cases h
    · rw [if_neg hb]; exact rdL_none h r
def lstS (s : ByteArray) : List Deed := ⟨2, 0, tx []⟩ :: (if 4 < s.size then [⟨0, 0, s.extract 4 s.size⟩] else [])
theorem rdL_all (s : ByteArray) : rdL s (lstS s ++ drops 0 10) = rd s := by
  cases hr : rd s with
  | none => exact rdL_none hr _
  | some a =>
    refine rdL_of hr ?_
    obtain ⟨h1, h2⟩ := rd_some hr
    obtain ⟨k, n, t⟩ := a
    unfold dB at h1
    unfold lstS
    by_cases g1 : k = 0 ∧ n = 0 ∧ t ≠ tx [] ∧ prF t 0 = true
    · rw [if_pos g1] at h1
      obtain ⟨rfl, rfl, ht, _⟩ := g1
      have hz : t.size ≠ 0 := fun e => ht ((nil_size t).2 e)
      have hs : s.size = 4 + t.size := by rw [← h1, ByteArray.size_append, tx_size]; rfl
      have he : s.extract 4 s.size = t := ba_ext (by rw [ex_list, List.take_of_length_le (by rw [len_list]; omega), ← h1, app_list, tx_list]; rfl)
      rw [if_pos (by omega), he]
      simp
    · rw [if_neg g1] at h1
      by_cases g2 : k = 1 ∧ t = tx [] ∧ 0 ≤ n ∧ n ≤ 9
      · obtain ⟨rfl, rfl, g3, g4⟩ := g2
        have := drops_mem 10 0 n.toNat (by omega) (by omega)
        rw [Int.toNat_of_nonneg g3] at this
        exact List.mem_append_right _ this
      · rw [if_neg g2] at h1
        by_cases g3 : k = 2 ∧ n = 0 ∧ t = tx []
        · obtain ⟨rfl, rfl, rfl⟩ := g3
          simp
        · rw [if_neg g3] at h1; exact absurd h1.symm h2
end Go.Proofs.YtjlebmnlphjjoaaGreatDoor.Fx
