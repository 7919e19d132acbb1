-- Written by a program of this session (wip/patch_print.py, over the kit's print) and not by hand; Lean checks every word.
import Derived.Test.YtfjfdnododnepaaPFnTrueOfxb
import Derived.Test.YtfjfdnododnepaaPFnTrueOfx0
import Derived.Test.YtfjfdnododnepaaPFnTrueOfx1
import Derived.Test.YtfjfdnododnepaaPFnTrueOfx2
namespace Go.Proofs.Ytfjfdnododnepaa.PFnTrueOf
open Go.RowKit Go.Proofs.YtfjfdnododnepaaW.PrintWords Go.Proofs.YtfjfdnododnepaaW.PrintLast Go.Proofs.YtfjfdnododnepaaW.PrintMore
attribute [local go_sem] max2_int min2_int max_two min_two max_three min_three max_four min_four   -- for this text's walks alone
set_option linter.unusedVariables false
set_option linter.unusedSimpArgs false

/-! ### impl_sentenceReader_sentence: function 52 -/
theorem cutp_total (a b : ByteArray) : ∃ x y, strings_CutPrefix.f a b = some (x, y) := by
  unfold strings_CutPrefix.f stringslite_CutPrefix.f stringslite_HasPrefix.f; by_cases c : (a.size : Int) ≥ (b.size : Int)
  · (have c0 : 0 ≤ (b.size : Int) := by omega); (have c1 : (b.size : Int) ≤ (a.size : Int) := by omega); simp only [if_pos c, if_pos c0, if_pos c1, Option.bind_some]; split
    · exact ⟨_, _, rfl⟩
    · exact ⟨_, _, rfl⟩
  · simp only [if_neg c, Option.bind_some]; exact ⟨_, _, rfl⟩
theorem countIn_total (a b : ByteArray) (lo hi : Int) : ∃ n y, impl_countIn.f a b lo hi = some (n, y) ∧ -1000 ≤ n ∧ n ≤ 1000 := by
  obtain ⟨x, y, h⟩ := cutp_total a b; have hr := bt_range x 0; unfold impl_countIn.f; rw [h]; simp only [Option.bind_some]; (have e1 : wrap64 (bt x 0) = bt x 0 := by unfold wrap64; omega); (have e2 : wrap64 (bt x 0 - 48) = bt x 0 - 48 := by unfold wrap64; omega); rw [e1, e2]; by_cases c1 : y = true
  · rw [if_pos c1]; by_cases c2 : (x.size : Int) = 1
    · rw [if_pos c2, if_pos (by omega)]; split
      · exact ⟨_, _, rfl, by omega, by omega⟩
      · exact ⟨_, _, rfl, by omega, by omega⟩
    · rw [if_neg c2]; exact ⟨_, _, rfl, by omega, by omega⟩
  · rw [if_neg c1]; exact ⟨_, _, rfl, by omega, by omega⟩
theorem named_total (x : ByteArray) : ∃ t b, impl_namedTriangle.f x = some (t, b) := by
  obtain ⟨n1, b1, h1, l1, u1⟩ := countIn_total x ⟨#[97, 116, 108, 101, 97, 115, 116]⟩ 1 5; obtain ⟨n2, b2, h2, l2, u2⟩ := countIn_total x ⟨#[106, 117, 115, 116]⟩ 0 5; obtain ⟨n3, b3, h3, l3, u3⟩ := countIn_total x ⟨#[97, 108, 108, 98, 117, 116]⟩ 0 5; unfold impl_namedTriangle.f; rw [h1, h2, h3]; simp only [Option.bind_some]; rw [if_pos ⟨l1, u1, l2, u2, l3, u3⟩]; exact ⟨_, _, rfl⟩
/-- the triangle of a name, if it is one -/
def ntri (x : ByteArray) : Option (List Int) := match impl_namedTriangle.f x with
  | some (t, true) => some t
  | _ => none
/-- where the first opening bracket is, from a place on -/
def openAt (s : ByteArray) (a : Nat) : Int := Lib.indexByte (s.extract a s.size).data.toList 40
theorem indexByte_lt (c : UInt8) : ∀ l : List UInt8, Lib.indexByte l c < l.length
  | [] => by simp [Lib.indexByte]
  | b :: l => by
    have := indexByte_lt c l; unfold Lib.indexByte; rw [List.length_cons]; split
    · omega
    · split <;> omega
theorem openAt_lt (s : ByteArray) (a : Nat) (h : a ≤ s.size) : openAt s a < s.size - a := by
  have h1 := indexByte_lt 40 (s.extract a s.size).data.toList
  have h2 : (s.extract a s.size).data.toList.length = s.size - a := by
    rw [Array.length_toList]; show (s.extract a s.size).size = _; rw [ByteArray.size_extract]; omega
  rw [h2] at h1; unfold openAt; omega
theorem ptwo_comma {par : Nat → Option (PT × Nat)} {en : Int} {s : ByteArray} {a : Nat} {p : PT} {e : Nat} (h : ptwo par [44] en s a = some (p, e)) : ∃ x y, p = .two 44 x y := by
  unfold ptwo at h
  cases h1 : par a with
  | none => rw [h1] at h; cases h
  | some r =>
    obtain ⟨x, a1⟩ := r; rw [h1] at h; simp only at h; have hr := nxt_range s a1; split at h
    · cases h
    · rename_i hc
      have hz : (nxt s a1).1 = 44 := by
        unfold Lib.indexByte at hc; split at hc
        · rename_i he; have he := eq_of_beq he; (have h5 : (nxt s a1).1.toNat.toUInt8.toNat = 44 := by rw [← he]; rfl); rw [Nat.toUInt8_eq, UInt8.toNat_ofNat'] at h5; omega
        · exfalso; apply hc; unfold Lib.indexByte; decide
      cases h2 : par (nxt s a1).2 with
      | none => rw [h2] at h; cases h
      | some r =>
        obtain ⟨y, a3⟩ := r; rw [h2] at h; simp only at h; split at h
        · injection h with h; injection h with h _; exact ⟨x, y, by rw [← h, hz]⟩
        · cases h
/-- a sentence from a place on, and where it ends -/
def psent : Nat → ByteArray → Nat → Option (PT × Nat)
  | 0, _, _ => none
  | n + 1, s, a =>
    if (nxt s a).1 = 126 then (match psent n s (a + 1) with | none => none | some (p, e) => some (.one 126 p, e))
    else if (nxt s a).1 = 91 then ptwo (psent n s) [38, 124] 93 s (a + 1)
    else if openAt s a < 0 then none
    else match ntri (s.extract a (a + (openAt s a).toNat)) with
      | none => none
      | some t => match ptwo (pset (s.size + 1) s) [44] 41 s (a + (openAt s a).toNat + 1) with
        | some (.two _ x y, e) => some (.tri t x y, e)
        | _ => none
theorem psent_place (s : ByteArray) : ∀ n a p a', a ≤ s.size → psent n s a = some (p, a') → a < a' ∧ a' ≤ s.size
  | 0, a, p, a', _, h => by cases h
  | n + 1, a, p, a', ha, h => by
    unfold psent at h; split at h
    · rename_i c; obtain ⟨k1, k2⟩ := nxt_pos ha (show (nxt s a).1 ≠ 0 by omega)
      cases h1 : psent n s (a + 1) with
      | none => rw [h1] at h; cases h
      | some r =>
        obtain ⟨x, e⟩ := r; rw [h1] at h; have := psent_place s n (a + 1) x e k1 h1; injection h with h; injection h with _ h; omega
    · split at h
      · rename_i c; obtain ⟨k1, k2⟩ := nxt_pos ha (show (nxt s a).1 ≠ 0 by omega); have := ptwo_place (psent_place s n) k1 h; omega
      · split at h
        · cases h
        · rename_i c; have hl := openAt_lt s a ha
          cases h1 : ntri (s.extract a (a + (openAt s a).toNat)) with
          | none => rw [h1] at h; cases h
          | some t =>
            rw [h1] at h; simp only at h
            cases h2 : ptwo (pset (s.size + 1) s) [44] 41 s (a + (openAt s a).toNat + 1) with
            | none => rw [h2] at h; cases h
            | some r =>
              obtain ⟨x, e⟩ := r; have := ptwo_place (pset_place s (s.size + 1)) (show a + (openAt s a).toNat + 1 ≤ s.size by omega) h2; obtain ⟨x1, y1, rfl⟩ := ptwo_comma h2; rw [h2] at h; simp only at h; injection h with h; injection h with _ h; omega
theorem PostP.tri {g : Nat} {s : ByteArray} {w w' : World} {a : Nat} {t : List Int} {x y : PT} {b : Nat} {v : Value} (hg : g < w.heap.size) (hf : Fr g w w') (hr : RD g s a w') (ht : Tree g w' (.two 44 x y) b) (hR : Kd.R (Kd.int .i64) 3 w' 0 (fun k => k < b ∧ k ≠ g) v t) (hb : w.heap.size ≤ b) :
    PostP g s w (some (.tri t x y, a)) (.returned (.pointer (some ⟨b, 0, none⟩))) (w'.setCell ⟨b, 1, none⟩ v) := by
  obtain ⟨h1, q, b1, b2, h2, h3, h4, h4', h5, h6, h7, h8⟩ := ht; (have far : ∀ k, k ≠ b → (w'.setCell ⟨b, 1, none⟩ v).heap[k]? = w'.heap[k]? := fun k hk => Below.heap_setCell w' ⟨b, 1, none⟩ v k hk); refine And.intro ⟨hf.1.setCell (by show g ≤ b; omega) v, keep_far hf.2 (by show w.heap.size ≤ b; exact hb) v⟩ ⟨b, rfl, (far g (Ne.symm h1)).trans hr, ⟨h1, q, b1, b2, v, h2, h3, h4, h4', ?_, (far q (by omega)).trans h6, Kd.R_step hR (fun k hk _ => far k (by omega)), h7.move (fun k hk _ => far k (by omega)), h8.move (fun k hk _ => far k (by omega))⟩, hb⟩; exact blk_set h5 1 v
theorem setCell_size (w : World) (a : Addr) (v : Value) : (w.setCell a v).heap.size = w.heap.size := by simp [World.setCell]
theorem R_place {g b base : Nat} {w3 w4 : World} {u v : Value} {t : List Int} {P : Nat → Prop} (h : Kd.R (Kd.int .i64) 3 w3 base (fun k => True ∧ base ≤ k ∧ k < w3.heap.size ∧ P k) v t) (hg : g < base) (hf : Fr g (w3.setCell ⟨g, 1, none⟩ u) w4) (hb : (w3.setCell ⟨g, 1, none⟩ u).heap.size ≤ b) :
    Kd.R (Kd.int .i64) 3 w4 0 (fun k => k < b ∧ k ≠ g) v t := by
  rw [setCell_size] at hb; refine Kd.R_lower (Kd.R_mono (Kd.R_step h (fun k hk hlt => ?_)) (fun k hk => ⟨by omega, by omega⟩)) (Nat.zero_le _); (have hkg : k ≠ g := by omega); exact (hf.2.2 k (by rw [setCell_size]; exact hlt) hkg (by simp)).trans (Below.heap_setCell w3 ⟨g, 1, none⟩ u k hkg)
set_option maxHeartbeats 8000000 in
set_option maxRecDepth 100000 in
theorem impl_sentenceReader_sentence.calls (g : Nat) (s : ByteArray) (hs : s.size ≤ 9223372036854775806) : ∀ (n a : Nat) (w : World), a ≤ s.size → s.size < a + n → RD g s a w →
    Calls Try.prog 52 #[.pointer (some ⟨g, 0, none⟩)] w (PostP g s w (psent n s a)) := by
  intro n
  induction n with
  | zero => intro a w ha hn; exact absurd hn (by omega)
  | succ n ih =>
    intro a w ha hn h; have HG := Aside0.mk h.lt; have HS0 := Aside0.mk h; have hc1 : w.cell? ⟨g, 1, none⟩ = some (.int .i64 (a : Int)) := h.c1; have HN := impl_sentenceReader_next.calls g s a w hs ha h; have hz := nxt_range s a; unfold psent; by_cases c2 : (nxt s a).1 = 126
    · rw [if_pos c2]; obtain ⟨k1, k2⟩ := nxt_pos ha (show (nxt s a).1 ≠ 0 by omega); rw [k2, c2] at HN; have HA := fun wx hx => ih (a + 1) wx k1 (by omega) hx
      cases hp : psent n s (a + 1) with
      | none =>
        rw [hp] at HA; replace HN := Aside0.mk HN; replace HA := Aside0.mk HA; clear hz k1 k2 ih h hn ha hs hp c2; go_enter Try.func52, Try.ntmps52; go_wp2_with (first | (go_at_call 70; (with_reducible refine HN.out.mono ?_); rintro e w1 ⟨rfl, hs1, hf1⟩; have HS1 := Aside0.mk hs1; have HF1 := Aside0.mk hf1; clear hs1 hf1) | (go_at_call 52; (with_reducible refine (HA.out _ HS1.out).mono ?_); rintro e w2 ⟨hf2, rfl⟩; have HF2 := Aside0.mk hf2; clear hf2)); go_ret; exact PostP.nil (HF1.out.trans HF2.out)
      | some r =>
        obtain ⟨p, e⟩ := r; rw [hp] at HA; replace HN := Aside0.mk HN; replace HA := Aside0.mk HA; clear hz k1 k2 ih h hn ha hs hp c2; go_enter Try.func52, Try.ntmps52; go_wp2_with (first | (go_at_call 70; (with_reducible refine HN.out.mono ?_); rintro e w1 ⟨rfl, hs1, hf1⟩; have HS1 := Aside0.mk hs1; have HF1 := Aside0.mk hf1; clear hs1 hf1) | (go_at_call 52; (with_reducible refine (HA.out _ HS1.out).mono ?_); rintro e w2 ⟨hf2, b1, rfl, hs2, ht2, hl2⟩; have HF2 := Aside0.mk hf2; have HS2 := Aside0.mk hs2; have HT2 := Aside0.mk ht2; clear hf2 hs2 ht2 hl2)); go_ret; exact PostP.one _ _ HG.out (HF1.out.trans HF2.out) HS2.out HT2.out (by first | rfl | (simp; done))
    · rw [if_neg c2]; by_cases c3 : (nxt s a).1 = 91
      · rw [if_pos c3]; obtain ⟨k1, k2⟩ := nxt_pos ha (show (nxt s a).1 ≠ 0 by omega); rw [k2, c3] at HN; (have HT := fun wx hx => impl_sentenceReader_two.calls 52 (fun args wx => enters_ Try.func52 (by kernel_rfl) rfl args wx) g s hs (psent n s) ⟨#[38, 124]⟩ 93 n (psent_place s n) (fun a wx ha hn hx => ih a wx ha hn hx) (a + 1) wx k1 (by omega) hx); (have hmf : ∀ (fn : Fn) (first cap : Array Value) (w : World), (Instr.makeFunc fn first cap).run Try.prog w = .ok (.func fn first cap) w := fun _ _ _ _ => rfl); replace HN := Aside0.mk HN; replace HT := Aside0.mk HT; clear hz k1 k2 ih h hn ha hs c2 c3
        cases hp : ptwo (psent n s) [38, 124] 93 s (a + 1) with
        | none =>
          have HT : Aside0 (∀ wx, RD g s (a + 1) wx → Calls Try.prog 71 _ wx (PostP g s wx none)) := ⟨fun wx hx => by have := HT.out wx hx; rw [show (⟨#[38, 124]⟩ : ByteArray).data.toList = [38, 124] from rfl, hp] at this; exact this⟩; clear hp; go_enter Try.func52, Try.ntmps52; go_wp2_with (first | (go_at_call 70; (with_reducible refine HN.out.mono ?_); rintro e w1 ⟨rfl, hs1, hf1⟩; have HS1 := Aside0.mk hs1; have HF1 := Aside0.mk hf1; clear hs1 hf1) | (go_at_call 71; (with_reducible refine (HT.out _ HS1.out).mono ?_); rintro e w2 ⟨hf2, rfl⟩; have HF2 := Aside0.mk hf2; clear hf2)); go_ret; exact PostP.nil (HF1.out.trans HF2.out)
        | some r =>
          obtain ⟨p, e⟩ := r; have HT : Aside0 (∀ wx, RD g s (a + 1) wx → Calls Try.prog 71 _ wx (PostP g s wx (some (p, e)))) := ⟨fun wx hx => by have := HT.out wx hx; rw [show (⟨#[38, 124]⟩ : ByteArray).data.toList = [38, 124] from rfl, hp] at this; exact this⟩; clear hp; go_enter Try.func52, Try.ntmps52; go_wp2_with (first | (go_at_call 70; (with_reducible refine HN.out.mono ?_); rintro e w1 ⟨rfl, hs1, hf1⟩; have HS1 := Aside0.mk hs1; have HF1 := Aside0.mk hf1; clear hs1 hf1) | (go_at_call 71; (with_reducible refine (HT.out _ HS1.out).mono ?_); rintro e w2 ⟨hf2, b1, rfl, hs2, ht2, hl2⟩; have HF2 := Aside0.mk hf2; have HS2 := Aside0.mk hs2; have HT2 := Aside0.mk ht2; have HL2 := Aside0.mk hl2; clear hf2 hs2 ht2 hl2)); go_ret; exact PostP.step HF1.out (And.intro HF2.out ⟨b1, rfl, HS2.out, HT2.out, HL2.out⟩)
      · rw [if_neg c3]; obtain ⟨z, hz0⟩ : ∃ z, (nxt s a).1 = z := ⟨_, rfl⟩; rw [hz0] at HN c2 c3; (have d5 : (z == 126) = false := by rw [beq_eq_false_iff_ne]; omega); (have d6 : (z == 91) = false := by rw [beq_eq_false_iff_ne]; omega); (have HI := fun wx => strings_IndexByte.calls (s.extract a s.size) 40 (openAt s a) wx rfl); have hlt := openAt_lt s a ha; obtain ⟨i, hi⟩ : ∃ i, openAt s a = i := ⟨_, rfl⟩; rw [hi] at HI hlt ⊢; (have p0 : 0 ≤ (a : Int) := by omega); (have q0 : (a : Int) ≤ (s.size : Int) := by omega); replace HN := Aside0.mk HN; replace HI := Aside0.mk HI; clear hz0 hz c2 c3 ih h; by_cases ci : i < 0
        · rw [if_pos ci]; have cib : decide (i < 0) = true := decide_eq_true ci; clear hlt hi hn ci; go_enter Try.func52, Try.ntmps52; go_wp2_with (first | (go_at_call 70; (with_reducible refine HN.out.mono ?_); rintro e w1 ⟨rfl, hs1, hf1⟩; have HS1 := Aside0.mk hs1; have HF1 := Aside0.mk hf1; have hd0 := hs1.c0; clear hs1 hf1) | (go_at_call 72; (with_reducible refine (HI.out _).mono ?_); rintro e w2 ⟨rfl, ⟨nd, rfl⟩⟩)); go_ret; exact PostP.nil (by repeat (first | exact HF1.out | apply Fr.drewN))
        · rw [if_neg ci]; obtain ⟨j, rfl⟩ : ∃ j : Nat, i = (j : Int) := ⟨i.toNat, by omega⟩; rw [Int.toNat_natCast]; have cib : decide ((j : Int) < 0) = false := decide_eq_false ci; (have hj : a + j + 1 ≤ s.size := by omega); (have q1 : (a : Int) ≤ (a : Int) + (j : Int) := by omega); (have q2 : (a : Int) + (j : Int) ≤ (s.size : Int) := by omega); (have q3 : 0 ≤ (a : Int) + (j : Int) := by omega); (have e1 : wrap64 ((a : Int) + (j : Int)) = (a : Int) + (j : Int) := by unfold wrap64; omega); (have e2 : wrap64 ((a : Int) + (j : Int) + 1) = (a : Int) + (j : Int) + 1 := by unfold wrap64; omega); obtain ⟨t, b, ht⟩ := named_total (s.extract a (a + j)); (have HM := fun wx => impl_namedTriangle.calls (s.extract a (a + j)) t b wx ht); replace HM := Aside0.mk HM; (have HT := fun wx hx => impl_sentenceReader_two.calls 74 (fun args wx => enters_ Try.func74 (by kernel_rfl) rfl args wx) g s hs (pset (s.size + 1) s) ⟨#[44]⟩ 41 (s.size + 1) (pset_place s (s.size + 1)) (fun a wx ha hn hx => impl_sentenceReader_set.calls g s hs (s.size + 1) a wx ha hn hx) (a + j + 1) wx hj (by omega) hx); replace HT := Aside0.mk HT; unfold ntri; rw [ht]
          cases b with
          | false =>
            simp only; clear hlt hi hn ci ht HT; go_enter Try.func52, Try.ntmps52; go_wp2_with (first | (go_at_call 70; (with_reducible refine HN.out.mono ?_); rintro e w1 ⟨rfl, hs1, hf1⟩; have HS1 := Aside0.mk hs1; have HF1 := Aside0.mk hf1; have hd0 := hs1.c0; clear hs1 hf1) | (go_at_call 72; (with_reducible refine (HI.out _).mono ?_); rintro e w2 ⟨rfl, ⟨nd, rfl⟩⟩) | ((with_reducible refine gate_callee (f := 73) rfl ?_); refine goesL_ (some 50) rfl rfl Try.func73 (by kernel_rfl) rfl #[.string (s.extract a (a + j))] rfl (by (try simp only [List.map_toArray, List.map_cons, List.map_nil]); first | done | rfl) ?_; (with_reducible refine (HM.out _).mono ?_); rintro e w3 ⟨v0_, rfl, hr3, hb3⟩; have HB3 := Aside0.mk hb3; clear hr3 hb3; refine ⟨_, rfl, ?_⟩)); go_ret; exact PostP.nil ((HF1.out.drewN nd).below (Nat.le_of_lt HG.out) HB3.out)
          | true =>
            (have hmf : ∀ (fn : Fn) (first cap : Array Value) (w : World), (Instr.makeFunc fn first cap).run Try.prog w = .ok (.func fn first cap) w := fun _ _ _ _ => rfl); simp only
            cases hp : ptwo (pset (s.size + 1) s) [44] 41 s (a + j + 1) with
            | none =>
              have HT : Aside0 (∀ wx, RD g s (a + j + 1) wx → Calls Try.prog 71 _ wx (PostP g s wx none)) := ⟨fun wx hx => by have := HT.out wx hx; rw [show (⟨#[44]⟩ : ByteArray).data.toList = [44] from rfl, hp] at this; exact this⟩; clear hp hlt hi hn ci ht; go_enter Try.func52, Try.ntmps52; go_wp2_with (first | (go_at_call 70; (with_reducible refine HN.out.mono ?_); rintro e w1 ⟨rfl, hs1, hf1⟩; have HS1 := Aside0.mk hs1; have HF1 := Aside0.mk hf1; have hd0 := hs1.c0; clear hs1 hf1) | (go_at_call 72; (with_reducible refine (HI.out _).mono ?_); rintro e w2 ⟨rfl, ⟨nd, rfl⟩⟩; have HS2 := Az (HS1.out.drewN nd); have HF2 := Az (HF1.out.drewN nd); clear HS1 HF1) | ((with_reducible refine gate_callee (f := 73) rfl ?_); refine goesL_ (some 50) rfl rfl Try.func73 (by kernel_rfl) rfl #[.string (s.extract a (a + j))] rfl (by (try simp only [List.map_toArray, List.map_cons, List.map_nil]); first | done | rfl) ?_; (with_reducible refine (HM.out _).mono ?_); rintro e w3 ⟨v0_, rfl, hr3, hb3⟩; have HS3 := Az (HS2.out.below hb3); have HF3 := Az (HF2.out.below (Nat.le_of_lt HG.out) hb3); have hd1 := HS3.out.c1; have hd2 := HS3.out.f1; clear hr3 hb3; refine ⟨_, rfl, ?_⟩) | (go_at_call 71; (with_reducible refine (HT.out _ (HS3.out.set _ (a + j + 1) (by first | rfl | go_num))).mono ?_); rintro e w4 ⟨hf4, rfl⟩; have HF4 := Az ((HF3.out.set 1 _).trans hf4); clear hf4)); go_ret; exact PostP.nil HF4.out
            | some r =>
              obtain ⟨p, e⟩ := r; obtain ⟨x, y, rfl⟩ := ptwo_comma hp; have HT : Aside0 (∀ wx, RD g s (a + j + 1) wx → Calls Try.prog 71 _ wx (PostP g s wx (some (.two 44 x y, e)))) := ⟨fun wx hx => by have := HT.out wx hx; rw [show (⟨#[44]⟩ : ByteArray).data.toList = [44] from rfl, hp] at this; exact this⟩; clear hp hlt hi hn ci ht; go_enter Try.func52, Try.ntmps52; go_wp2_with (first | (go_at_call 70; (with_reducible refine HN.out.mono ?_); rintro e w1 ⟨rfl, hs1, hf1⟩; have HS1 := Aside0.mk hs1; have HF1 := Aside0.mk hf1; have hd0 := hs1.c0; clear hs1 hf1) | (go_at_call 72; (with_reducible refine (HI.out _).mono ?_); rintro e w2 ⟨rfl, ⟨nd, rfl⟩⟩; have HS2 := Az (HS1.out.drewN nd); have HF2 := Az (HF1.out.drewN nd); clear HS1 HF1) | ((with_reducible refine gate_callee (f := 73) rfl ?_); refine goesL_ (some 50) rfl rfl Try.func73 (by kernel_rfl) rfl #[.string (s.extract a (a + j))] rfl (by (try simp only [List.map_toArray, List.map_cons, List.map_nil]); first | done | rfl) ?_; (with_reducible refine (HM.out _).mono ?_); rintro e w3 ⟨v0_, rfl, hr3, hb3⟩; obtain ⟨A3, c3, e3⟩ := Kd.R_slice hr3; subst e3; have HS3 := Az (HS2.out.below hb3); have HF3 := Az (HF2.out.below (Nat.le_of_lt HG.out) hb3); have HR3 := Az (Kd.R_bound hr3); have HL3 := Aside0.mk HS2.out.lt; have hd1 := HS3.out.c1; have hd2 := HS3.out.f1; clear hr3 hb3; refine ⟨_, rfl, ?_⟩) | (go_at_call 71; (with_reducible refine (HT.out _ (HS3.out.set _ (a + j + 1) (by first | rfl | go_num))).mono ?_); rintro e w4 ⟨hf4, b4, rfl, hs4, ht4, hl4⟩; have HF4 := Aside0.mk hf4; have HS4 := Aside0.mk hs4; have HT4 := Aside0.mk ht4; have HL4 := Aside0.mk hl4; have hd3 := Tree.cell1 ht4; have hd4 := Tree.free1 ht4; clear hf4 hs4 ht4 hl4)); go_ret; exact PostP.tri HG.out ((HF3.out.set 1 _).trans HF4.out) HS4.out HT4.out (R_place HR3.out HL3.out HF4.out HL4.out) (Nat.le_trans HF3.out.size (by have := HL4.out; rw [setCell_size] at this; exact this))

/-! ### impl_readSentence: function 33 -/
/-- the sentence of a text, if it is one -/
def pread (s : ByteArray) : Option PT := if (s.size : Int) > 80 then none else
  match psent (s.size + 1) s 0 with
  | some (p, e) => if e = s.size then some p else none
  | none => none
def PostR (w : World) (r : Option PT) (e : Ending) (w' : World) : Prop :=
  Below w.heap.size w w' ∧ match r with
  | none => e = .returned (.pointer none)
  | some p => ∃ b : Nat, e = .returned (.pointer (some ⟨b, 0, none⟩)) ∧ Tree w.heap.size w' p b
theorem PostR.nil {w w' : World} (h : Below w.heap.size w w') : PostR w none (.returned (.pointer none)) w' := And.intro h rfl
theorem PostR.some {w w' : World} {p : PT} {b : Nat} (h : Below w.heap.size w w') (ht : Tree w.heap.size w' p b) : PostR w (some p) (.returned (.pointer (some ⟨b, 0, none⟩))) w' := And.intro h ⟨b, rfl, ht⟩
set_option maxHeartbeats 8000000 in
set_option maxRecDepth 100000 in
theorem impl_readSentence.calls (s : ByteArray) (w : World) : Calls Try.prog 33 #[.string s] w (PostR w (pread s)) := by
  unfold pread; by_cases c : (s.size : Int) > 80
  · rw [if_pos c]; have cb : decide (80 < (s.size : Int)) = true := decide_eq_true c; have cb' : decide (80 < s.size) = true := decide_eq_true (by omega); clear c; go_enter Try.func33, Try.ntmps33; go_wp2; go_ret; exact PostR.nil (Below.refl _ _)
  · rw [if_neg c]; have cb : decide (80 < (s.size : Int)) = false := decide_eq_false c; have cb' : decide (80 < s.size) = false := decide_eq_false (by omega); have hrd : RD w.heap.size s 0 (w.alloc (.cells #[.string s, .int .i64 0] 68)) := blk_new _ _; have HS := impl_sentenceReader_sentence.calls w.heap.size s (by omega) (s.size + 1) 0 (w.alloc (.cells #[.string s, .int .i64 0] 68)) (by omega) (by omega) hrd; have HB := Az (below_alloc (Below.refl w.heap.size w) (.cells #[.string s, .int .i64 0] 68)); clear hrd
    cases hp : psent (s.size + 1) s 0 with
    | none =>
      rw [hp] at HS; replace HS := Aside0.mk HS; clear hp c; simp only; go_enter Try.func33, Try.ntmps33; go_wp2_with (go_at_call 52; (with_reducible refine HS.out.mono ?_); rintro e w2 ⟨hf2, rfl⟩; have HF2 := Aside0.mk hf2; clear hf2); go_ret; exact PostR.nil (HB.out.trans HF2.out.1)
    | some r =>
      obtain ⟨p, e⟩ := r; rw [hp] at HS; replace HS := Aside0.mk HS; clear hp c; simp only; by_cases ce : e = s.size
      · rw [if_pos ce]; (have ceb : ((e : Int) != (s.size : Int)) = false := by simp [ce]); (have ceb' : ((e : Int) == (s.size : Int)) = true := by simp [ce]); clear ce; go_enter Try.func33, Try.ntmps33; go_wp2_with (go_at_call 52; (with_reducible refine HS.out.mono ?_); rintro e w2 ⟨hf2, b2, rfl, hs2, ht2, hl2⟩; have HF2 := Aside0.mk hf2; have HT2 := Aside0.mk ht2; have hd := hs2.c1; clear hf2 hs2 ht2 hl2); go_ret; exact PostR.some (HB.out.trans HF2.out.1) HT2.out
      · rw [if_neg ce]; (have ceb : ((e : Int) != (s.size : Int)) = true := by simp; omega); (have ceb' : ((e : Int) == (s.size : Int)) = false := by rw [beq_eq_false_iff_ne]; omega); clear ce; go_enter Try.func33, Try.ntmps33; go_wp2_with (go_at_call 52; (with_reducible refine HS.out.mono ?_); rintro e w2 ⟨hf2, b2, rfl, hs2, ht2, hl2⟩; have HF2 := Aside0.mk hf2; have HT2 := Aside0.mk ht2; have hd := hs2.c1; clear hf2 hs2 ht2 hl2); go_ret; exact PostR.nil (HB.out.trans HF2.out.1)

/-! ### impl_SentenceOk: function 14 -/
def impl_SentenceOk.f (a0 : ByteArray) : Option (Bool) := some (pread a0).isSome
set_option maxHeartbeats 8000000 in
set_option maxRecDepth 100000 in
theorem impl_SentenceOk.calls (a0 : ByteArray) (r : Bool) (w : World) (h : impl_SentenceOk.f a0 = some r) :
    Calls Try.prog 14 #[.string a0] w fun e w' => e = .returned (.bool r) ∧ Below w.heap.size w w' := by
  unfold impl_SentenceOk.f at h; obtain rfl := Option.some.inj h; clear h; have HS := impl_readSentence.calls a0 w
  cases hp : pread a0 with
  | none =>
    rw [hp] at HS; replace HS := Aside0.mk HS; clear hp; go_enter Try.func14, Try.ntmps14; go_wp2_with (go_at_call 33; (with_reducible refine HS.out.mono ?_); rintro e w2 ⟨hb, rfl⟩); go_ret; exact ⟨rfl, hb⟩
  | some p =>
    rw [hp] at HS; replace HS := Aside0.mk HS; clear hp; go_enter Try.func14, Try.ntmps14; go_wp2_with (go_at_call 33; (with_reducible refine HS.out.mono ?_); rintro e w2 ⟨hb, b, rfl, ht⟩); go_ret; exact ⟨rfl, hb⟩

/-! ### spec_l1Made: function 64 -/
mutual
def spec_l1Made.l0 : Nat → Int → Int → List Int → Int → Option (List Int)
  | 0, _, _, _, _ => none
  | k + 1, x0, x1, x5, x6 => if x6 ≤ 5 then (spec_l1Made.l1 k x0 x1 x5 x6 0) else (some x5)
def spec_l1Made.l1 : Nat → Int → Int → List Int → Int → Int → Option (List Int)
  | 0, _, _, _, _, _ => none
  | k + 1, x0, x1, x5, x6, x7 => if x7 ≤ x6 then (if x0 = 0 then (if x7 = x6 then (if x5.length < 17592186044416 then (spec_l1Made.l1 k x0 x1 (x5 ++ [1]) x6 (wrap64 (x7 + 1))) else (none)) else (if x5.length < 17592186044416 then (spec_l1Made.l1 k x0 x1 (x5 ++ [0]) x6 (wrap64 (x7 + 1))) else (none))) else (if x0 = 1 then (if x7 ≥ x1 then (if x5.length < 17592186044416 then (spec_l1Made.l1 k x0 x1 (x5 ++ [1]) x6 (wrap64 (x7 + 1))) else (none)) else (if x5.length < 17592186044416 then (spec_l1Made.l1 k x0 x1 (x5 ++ [0]) x6 (wrap64 (x7 + 1))) else (none))) else (if x0 = 2 then (if x7 = x1 then (if x5.length < 17592186044416 then (spec_l1Made.l1 k x0 x1 (x5 ++ [1]) x6 (wrap64 (x7 + 1))) else (none)) else (if x5.length < 17592186044416 then (spec_l1Made.l1 k x0 x1 (x5 ++ [0]) x6 (wrap64 (x7 + 1))) else (none))) else (if x0 = 3 then (if (wrap64 (2 * x7)) > x6 then (if x5.length < 17592186044416 then (spec_l1Made.l1 k x0 x1 (x5 ++ [1]) x6 (wrap64 (x7 + 1))) else (none)) else (if x5.length < 17592186044416 then (spec_l1Made.l1 k x0 x1 (x5 ++ [0]) x6 (wrap64 (x7 + 1))) else (none))) else (if x0 = 4 then (if (Int.tmod x7 2) = 0 then (if x5.length < 17592186044416 then (spec_l1Made.l1 k x0 x1 (x5 ++ [1]) x6 (wrap64 (x7 + 1))) else (none)) else (if x5.length < 17592186044416 then (spec_l1Made.l1 k x0 x1 (x5 ++ [0]) x6 (wrap64 (x7 + 1))) else (none))) else (if x0 = 5 then (if (wrap64 (x6 - x7)) = x1 then (if x5.length < 17592186044416 then (spec_l1Made.l1 k x0 x1 (x5 ++ [1]) x6 (wrap64 (x7 + 1))) else (none)) else (if x5.length < 17592186044416 then (spec_l1Made.l1 k x0 x1 (x5 ++ [0]) x6 (wrap64 (x7 + 1))) else (none))) else (if x5.length < 17592186044416 then (spec_l1Made.l1 k x0 x1 (x5 ++ [0]) x6 (wrap64 (x7 + 1))) else (none)))))))) else (spec_l1Made.l0 k x0 x1 x5 (wrap64 (x6 + 1)))
end
def spec_l1Made.f (k : Nat) (a0 : Int) (a1 : Int) : Option (List Int) := spec_l1Made.l0 k a0 a1 (([] : List Int)) 0
theorem spec_l1Made.mono_l : ∀ k, (∀ y0 y1 y2 y3, LeO (spec_l1Made.l0 k y0 y1 y2 y3) (spec_l1Made.l0 (k + 1) y0 y1 y2 y3)) ∧ (∀ y0 y1 y2 y3 y4, LeO (spec_l1Made.l1 k y0 y1 y2 y3 y4) (spec_l1Made.l1 (k + 1) y0 y1 y2 y3 y4))
  | 0 => ⟨fun _ _ _ _ r h => by simp [spec_l1Made.l0] at h, fun _ _ _ _ _ r h => by simp [spec_l1Made.l1] at h⟩
  | k + 1 => by
    obtain ⟨ih0, ih1⟩ := spec_l1Made.mono_l k; refine ⟨?_, ?_⟩
    · intro y0 y1 y2 y3; unfold spec_l1Made.l0; repeat' first
      | (with_reducible exact ih0 _ _ _ _)
      | (with_reducible exact ih1 _ _ _ _ _)
      | (with_reducible exact LeO.refl _)
      | (with_reducible exact LeO.none _)
      | (with_reducible refine LeO.ite ?_ ?_)
      | (with_reducible refine LeO.bind ?_ (fun _ => ?_))
      | exact ih0 _ _ _ _
      | exact ih1 _ _ _ _ _
      | exact LeO.none _
      | refine LeO.ite ?_ ?_
      | refine LeO.bind ?_ (fun _ => ?_)
    · intro y0 y1 y2 y3 y4; unfold spec_l1Made.l1; repeat' first
      | (with_reducible exact ih0 _ _ _ _)
      | (with_reducible exact ih1 _ _ _ _ _)
      | (with_reducible exact LeO.refl _)
      | (with_reducible exact LeO.none _)
      | (with_reducible refine LeO.ite ?_ ?_)
      | (with_reducible refine LeO.bind ?_ (fun _ => ?_))
      | exact ih0 _ _ _ _
      | exact ih1 _ _ _ _ _
      | exact LeO.none _
      | refine LeO.ite ?_ ?_
      | refine LeO.bind ?_ (fun _ => ?_)
theorem spec_l1Made.mono : ∀ a0 a1 k, LeO (spec_l1Made.f k a0 a1) (spec_l1Made.f (k + 1) a0 a1) := by
  intro a0 a1 k; obtain ⟨ih0, ih1⟩ := spec_l1Made.mono_l k; unfold spec_l1Made.f
  repeat' first
      | (with_reducible exact ih0 _ _ _ _)
      | (with_reducible exact ih1 _ _ _ _ _)
      | (with_reducible exact LeO.refl _)
      | (with_reducible exact LeO.none _)
      | (with_reducible refine LeO.ite ?_ ?_)
      | (with_reducible refine LeO.bind ?_ (fun _ => ?_))
      | exact ih0 _ _ _ _
      | exact ih1 _ _ _ _ _
      | exact LeO.none _
      | refine LeO.ite ?_ ?_
      | refine LeO.bind ?_ (fun _ => ?_)
set_option maxHeartbeats 8000000 in
set_option maxRecDepth 100000 in
theorem spec_l1Made.calls (k : Nat) (a0 : Int) (a1 : Int) (r : List Int) (w : World) (h : spec_l1Made.f k a0 a1 = some r) :
    Calls Try.prog 64 #[.int .i64 a0, .int .i64 a1] w fun e w' => ∃ v0_ : Value, e = .returned (v0_) ∧ Kd.R (Kd.int .i64) 3 w' w.heap.size (fun _ => True) v0_ r ∧ Below w.heap.size w w' := by
  have HB := Az (Below.refl w.heap.size w); have H : (spec_l1Made.l0 k a0 a1 (([] : List Int)) 0) = some r := h; clear h; obtain ⟨y107, hy107⟩ : ∃ y_ : List Int, y_ = (([] : List Int)) := ⟨_, rfl⟩; (replace H : (spec_l1Made.l0 k a0 a1 y107 0) = some r := by first | (rw [hy107]; with_reducible exact H) | (have H2_ := (Option.bind_some _ _).symm.trans H; rw [hy107]; with_reducible exact H2_) | (have H2_ := (Option.bind_some _ _).symm.trans H; with_reducible exact H2_) | with_reducible exact H | (rw [hy107]; exact H) | exact H); have Ny107 := Aside0.mk hy107; clear hy107; have H' := Aside0.mk H; clear H; go_enter Try.func64, Try.ntmps64; go_wp2_with (first | ((with_reducible refine gate_dst (N := 9) rfl ?_); refine Kd.R_lit (Kd.int .i64) _ 3 ?hg (N := 9) ?hd (xs := ([] : List Int)) (inner := []) (ok := fun _ => True) (okp := fun _ => True) ?hr ?hp (fun _ hk => hk) trivial (Below.refl _ _) (Nat.le_refl _) (by simp) ?_; (case hd => rfl); (case hg => rfl); (case hr => first | (go_simp; done) | (go_simp; rfl)); (case hp => exact (Reps.none _ _)); intro v108 w3 ho4 hb hg_ hnew_; clear hg_ hnew_; (first | rw [← Ny107.out] at ho4 | (simp only [Int.reduceToNat] at ho4; rw [← Ny107.out] at ho4)); have n0_ := Az (Kd.R_lower ho4 (below_size (cB HB))); have n1_ := Az (below_step (cB HB) hb); clear HB; have HO109 := n0_; have HB := n1_; clear n0_ n1_; clear hb ho4)); go_loopg [5, 6] k (fun kq v5 v6 w' => ∃ (x5_1 : List Int) (x6_1 : Int), v6 = .int .i64 x6_1 ∧ Aside0 (spec_l1Made.l0 kq a0 a1 x5_1 x6_1 = some r) ∧ Aside0 (kq ≤ k) ∧ Aside0 (Kd.R (Kd.int .i64) 3 w' w.heap.size (fun _ => True) v5 x5_1) ∧ Aside0 (Below w.heap.size w w')); case atStart => exact ⟨(y107), (0), mr, H', ⟨Nat.le_refl _⟩, ⟨by (with_reducible repeat (first | apply Kd.R_alloc | apply Kd.R_drewN | apply Kd.R_drew)); exact HO109.out⟩, ⟨(cB HB)⟩⟩
  case round =>
    clear H'; obtain ⟨x5_1, x6_1, rfl, HA, HK1, HO_5, HB⟩ := hrel
    cases gk with
    | zero => exact absurd HA.out (by simp [spec_l1Made.l0])
    | succ k1 =>
      have H := HA.out; clear HA; simp only [spec_l1Made.l0] at H; by_cases c5 : x6_1 ≤ 5
      · rw [if_pos c5] at H; have c5b0 : decide (x6_1 ≤ 5) = true := decide_eq_true c5; clear c5; have H' := Aside0.mk H; clear H; go_wp2; go_loopg [5, 7] k1 (fun kq v5 v7 w' => ∃ (x5_2 : List Int) (x7_2 : Int), v7 = .int .i64 x7_2 ∧ Aside0 (spec_l1Made.l1 kq a0 a1 x5_2 x6_1 x7_2 = some r) ∧ Aside0 (kq ≤ k1) ∧ Aside0 (Kd.R (Kd.int .i64) 3 w' w.heap.size (fun _ => True) v5 x5_2) ∧ Aside0 (Below w.heap.size w w')); case atStart => exact ⟨(x5_1), (0), mr, H', ⟨Nat.le_refl _⟩, ⟨by (with_reducible repeat (first | apply Kd.R_alloc | apply Kd.R_drewN | apply Kd.R_drew)); exact HO_5.out⟩, ⟨(cB HB)⟩⟩
        case round =>
          clear H'; obtain ⟨x5_2, x7_2, rfl, HA, HK2, HO_5, HB⟩ := hrel
          cases gk with
          | zero => exact absurd HA.out (by simp [spec_l1Made.l1])
          | succ k2 =>
            have H := HA.out; clear HA; simp only [spec_l1Made.l1] at H; by_cases c6 : x7_2 ≤ x6_1
            · rw [if_pos c6] at H; have c6b0 : decide (x7_2 ≤ x6_1) = true := decide_eq_true c6; clear c6; by_cases c7 : a0 = 0
              · rw [if_pos c7] at H; have c7b0 : (a0 == 0) = true := beq_iff_eq.mpr c7; have c7b1 : (a0 != 0) = false := bne_eq_false_iff_eq.mpr c7; clear c7; by_cases c8 : x7_2 = x6_1
                · rw [if_pos c8] at H; have c8b0 : (x7_2 == x6_1) = true := beq_iff_eq.mpr c8; have c8b1 : (x7_2 != x6_1) = false := bne_eq_false_iff_eq.mpr c8; clear c8; by_cases c9 : x5_2.length < 17592186044416
                  · rw [if_pos c9] at H; have LMc9 := Aside0.mk c9; clear c9; obtain ⟨y110, hy110⟩ : ∃ y_ : List Int, y_ = (x5_2 ++ [1]) := ⟨_, rfl⟩; (replace H : (spec_l1Made.l1 k2 a0 a1 y110 x6_1 (wrap64 (x7_2 + 1))) = some r := by first | (rw [hy110]; with_reducible exact H) | (have H2_ := (Option.bind_some _ _).symm.trans H; rw [hy110]; with_reducible exact H2_) | (have H2_ := (Option.bind_some _ _).symm.trans H; with_reducible exact H2_) | with_reducible exact H | (rw [hy110]; exact H) | exact H); have Ny110 := Aside0.mk hy110; clear hy110; have H' := Aside0.mk H; clear H; go_wp2_with (first | ((with_reducible refine gate_builtin (b := .append) (xs := #[.tmp 54, .tmp 55]) rfl ?_); at_builtin; refine Kd.R_append (Kd.int .i64) (w0 := w) w.heap.size rfl (.tmp 54) (.tmp 55) 29 3 (.int .i64 0) 8 rfl Try.underlying29 info3 rfl (by decide) (by omega) u5 x5_2 1 [.int .i64 1] (fun _ => True) (fun _ => False) rfl rfl ?aP (fun _ hk => hk.elim) ?aF ?aO ?aB ?aS ?aL ?_; (case aP => exact rfl); (case aB => exact (cB HB)); (case aF => exact (fun _ _ => trivial)); (case aO => exact (dR (HO_5.out))); (case aS => exact (below_size (cB HB))); (case aL => have := LMc9.out; omega); intro v111 w10 ho hb hg hat; rw [← Ny110.out] at ho; have n0_ := Az (hb); have n1_ := Az (ho); clear HB; clear HO_5; have HB := n0_; have HO112 := n1_; clear n0_ n1_; clear ho hb hg hat)); go_roundg k2; (case measure => have := HK1.out; have := HK2.out; omega); case rel => exact ⟨(y110), (wrap64 (x7_2 + 1)), mr, H', ⟨by have := HK1.out; have := HK2.out; omega⟩, ⟨by (with_reducible repeat (first | apply Kd.R_alloc | apply Kd.R_drewN | apply Kd.R_drew)); exact HO112.out⟩, ⟨(cB HB)⟩⟩
                  · rw [if_neg c9] at H; exact absurd H (by simp)
                · rw [if_neg c8] at H; have c8b0 : (x7_2 == x6_1) = false := beq_eq_false_iff_ne.mpr c8; have c8b1 : (x7_2 != x6_1) = true := bne_iff_ne.mpr c8; by_cases c11 : x5_2.length < 17592186044416
                  · rw [if_pos c11] at H; have LMc11 := Aside0.mk c11; clear c11; obtain ⟨y113, hy113⟩ : ∃ y_ : List Int, y_ = (x5_2 ++ [0]) := ⟨_, rfl⟩; (replace H : (spec_l1Made.l1 k2 a0 a1 y113 x6_1 (wrap64 (x7_2 + 1))) = some r := by first | (rw [hy113]; with_reducible exact H) | (have H2_ := (Option.bind_some _ _).symm.trans H; rw [hy113]; with_reducible exact H2_) | (have H2_ := (Option.bind_some _ _).symm.trans H; with_reducible exact H2_) | with_reducible exact H | (rw [hy113]; exact H) | exact H); have Ny113 := Aside0.mk hy113; clear hy113; have H' := Aside0.mk H; clear H; go_wp2_with (first | ((with_reducible refine gate_builtin (b := .append) (xs := #[.tmp 57, .tmp 58]) rfl ?_); at_builtin; refine Kd.R_append (Kd.int .i64) (w0 := w) w.heap.size rfl (.tmp 57) (.tmp 58) 29 3 (.int .i64 0) 8 rfl Try.underlying29 info3 rfl (by decide) (by omega) u5 x5_2 0 [.int .i64 0] (fun _ => True) (fun _ => False) rfl rfl ?aP (fun _ hk => hk.elim) ?aF ?aO ?aB ?aS ?aL ?_; (case aP => exact rfl); (case aB => exact (cB HB)); (case aF => exact (fun _ _ => trivial)); (case aO => exact (dR (HO_5.out))); (case aS => exact (below_size (cB HB))); (case aL => have := LMc11.out; omega); intro v114 w12 ho hb hg hat; rw [← Ny113.out] at ho; have n0_ := Az (hb); have n1_ := Az (ho); clear HB; clear HO_5; have HB := n0_; have HO115 := n1_; clear n0_ n1_; clear ho hb hg hat)); go_roundg k2; (case measure => have := HK1.out; have := HK2.out; omega); case rel => exact ⟨(y113), (wrap64 (x7_2 + 1)), mr, H', ⟨by have := HK1.out; have := HK2.out; omega⟩, ⟨by (with_reducible repeat (first | apply Kd.R_alloc | apply Kd.R_drewN | apply Kd.R_drew)); exact HO115.out⟩, ⟨(cB HB)⟩⟩
                  · rw [if_neg c11] at H; exact absurd H (by simp)
              · rw [if_neg c7] at H; have c7b0 : (a0 == 0) = false := beq_eq_false_iff_ne.mpr c7; have c7b1 : (a0 != 0) = true := bne_iff_ne.mpr c7; by_cases c13 : a0 = 1
                · rw [if_pos c13] at H; have c13b0 : (a0 == 1) = true := beq_iff_eq.mpr c13; have c13b1 : (a0 != 1) = false := bne_eq_false_iff_eq.mpr c13; clear c13; by_cases c14 : x7_2 ≥ a1
                  · rw [if_pos c14] at H; have c14b0 : decide (a1 ≤ x7_2) = true := decide_eq_true c14; clear c14; by_cases c15 : x5_2.length < 17592186044416
                    · rw [if_pos c15] at H; have LMc15 := Aside0.mk c15; clear c15; obtain ⟨y116, hy116⟩ : ∃ y_ : List Int, y_ = (x5_2 ++ [1]) := ⟨_, rfl⟩; (replace H : (spec_l1Made.l1 k2 a0 a1 y116 x6_1 (wrap64 (x7_2 + 1))) = some r := by first | (rw [hy116]; with_reducible exact H) | (have H2_ := (Option.bind_some _ _).symm.trans H; rw [hy116]; with_reducible exact H2_) | (have H2_ := (Option.bind_some _ _).symm.trans H; with_reducible exact H2_) | with_reducible exact H | (rw [hy116]; exact H) | exact H); have Ny116 := Aside0.mk hy116; clear hy116; have H' := Aside0.mk H; clear H; go_wp2_with (first | ((with_reducible refine gate_builtin (b := .append) (xs := #[.tmp 54, .tmp 55]) rfl ?_); at_builtin; refine Kd.R_append (Kd.int .i64) (w0 := w) w.heap.size rfl (.tmp 54) (.tmp 55) 29 3 (.int .i64 0) 8 rfl Try.underlying29 info3 rfl (by decide) (by omega) u5 x5_2 1 [.int .i64 1] (fun _ => True) (fun _ => False) rfl rfl ?aP (fun _ hk => hk.elim) ?aF ?aO ?aB ?aS ?aL ?_; (case aP => exact rfl); (case aB => exact (cB HB)); (case aF => exact (fun _ _ => trivial)); (case aO => exact (dR (HO_5.out))); (case aS => exact (below_size (cB HB))); (case aL => have := LMc15.out; omega); intro v117 w16 ho hb hg hat; rw [← Ny116.out] at ho; have n0_ := Az (hb); have n1_ := Az (ho); clear HB; clear HO_5; have HB := n0_; have HO118 := n1_; clear n0_ n1_; clear ho hb hg hat)); go_roundg k2; (case measure => have := HK1.out; have := HK2.out; omega); case rel => exact ⟨(y116), (wrap64 (x7_2 + 1)), mr, H', ⟨by have := HK1.out; have := HK2.out; omega⟩, ⟨by (with_reducible repeat (first | apply Kd.R_alloc | apply Kd.R_drewN | apply Kd.R_drew)); exact HO118.out⟩, ⟨(cB HB)⟩⟩
                    · rw [if_neg c15] at H; exact absurd H (by simp)
                  · rw [if_neg c14] at H; have c14b0 : decide (a1 ≤ x7_2) = false := decide_eq_false c14; clear c14; by_cases c17 : x5_2.length < 17592186044416
                    · rw [if_pos c17] at H; have LMc17 := Aside0.mk c17; clear c17; obtain ⟨y119, hy119⟩ : ∃ y_ : List Int, y_ = (x5_2 ++ [0]) := ⟨_, rfl⟩; (replace H : (spec_l1Made.l1 k2 a0 a1 y119 x6_1 (wrap64 (x7_2 + 1))) = some r := by first | (rw [hy119]; with_reducible exact H) | (have H2_ := (Option.bind_some _ _).symm.trans H; rw [hy119]; with_reducible exact H2_) | (have H2_ := (Option.bind_some _ _).symm.trans H; with_reducible exact H2_) | with_reducible exact H | (rw [hy119]; exact H) | exact H); have Ny119 := Aside0.mk hy119; clear hy119; have H' := Aside0.mk H; clear H; go_wp2_with (first | ((with_reducible refine gate_builtin (b := .append) (xs := #[.tmp 57, .tmp 58]) rfl ?_); at_builtin; refine Kd.R_append (Kd.int .i64) (w0 := w) w.heap.size rfl (.tmp 57) (.tmp 58) 29 3 (.int .i64 0) 8 rfl Try.underlying29 info3 rfl (by decide) (by omega) u5 x5_2 0 [.int .i64 0] (fun _ => True) (fun _ => False) rfl rfl ?aP (fun _ hk => hk.elim) ?aF ?aO ?aB ?aS ?aL ?_; (case aP => exact rfl); (case aB => exact (cB HB)); (case aF => exact (fun _ _ => trivial)); (case aO => exact (dR (HO_5.out))); (case aS => exact (below_size (cB HB))); (case aL => have := LMc17.out; omega); intro v120 w18 ho hb hg hat; rw [← Ny119.out] at ho; have n0_ := Az (hb); have n1_ := Az (ho); clear HB; clear HO_5; have HB := n0_; have HO121 := n1_; clear n0_ n1_; clear ho hb hg hat)); go_roundg k2; (case measure => have := HK1.out; have := HK2.out; omega); case rel => exact ⟨(y119), (wrap64 (x7_2 + 1)), mr, H', ⟨by have := HK1.out; have := HK2.out; omega⟩, ⟨by (with_reducible repeat (first | apply Kd.R_alloc | apply Kd.R_drewN | apply Kd.R_drew)); exact HO121.out⟩, ⟨(cB HB)⟩⟩
                    · rw [if_neg c17] at H; exact absurd H (by simp)
                · rw [if_neg c13] at H; have c13b0 : (a0 == 1) = false := beq_eq_false_iff_ne.mpr c13; have c13b1 : (a0 != 1) = true := bne_iff_ne.mpr c13; by_cases c19 : a0 = 2
                  · rw [if_pos c19] at H; have c19b0 : (a0 == 2) = true := beq_iff_eq.mpr c19; have c19b1 : (a0 != 2) = false := bne_eq_false_iff_eq.mpr c19; clear c19; by_cases c20 : x7_2 = a1
                    · rw [if_pos c20] at H; have c20b0 : (x7_2 == a1) = true := beq_iff_eq.mpr c20; have c20b1 : (x7_2 != a1) = false := bne_eq_false_iff_eq.mpr c20; clear c20; by_cases c21 : x5_2.length < 17592186044416
                      · rw [if_pos c21] at H; have LMc21 := Aside0.mk c21; clear c21; obtain ⟨y122, hy122⟩ : ∃ y_ : List Int, y_ = (x5_2 ++ [1]) := ⟨_, rfl⟩; (replace H : (spec_l1Made.l1 k2 a0 a1 y122 x6_1 (wrap64 (x7_2 + 1))) = some r := by first | (rw [hy122]; with_reducible exact H) | (have H2_ := (Option.bind_some _ _).symm.trans H; rw [hy122]; with_reducible exact H2_) | (have H2_ := (Option.bind_some _ _).symm.trans H; with_reducible exact H2_) | with_reducible exact H | (rw [hy122]; exact H) | exact H); have Ny122 := Aside0.mk hy122; clear hy122; have H' := Aside0.mk H; clear H; go_wp2_with (first | ((with_reducible refine gate_builtin (b := .append) (xs := #[.tmp 54, .tmp 55]) rfl ?_); at_builtin; refine Kd.R_append (Kd.int .i64) (w0 := w) w.heap.size rfl (.tmp 54) (.tmp 55) 29 3 (.int .i64 0) 8 rfl Try.underlying29 info3 rfl (by decide) (by omega) u5 x5_2 1 [.int .i64 1] (fun _ => True) (fun _ => False) rfl rfl ?aP (fun _ hk => hk.elim) ?aF ?aO ?aB ?aS ?aL ?_; (case aP => exact rfl); (case aB => exact (cB HB)); (case aF => exact (fun _ _ => trivial)); (case aO => exact (dR (HO_5.out))); (case aS => exact (below_size (cB HB))); (case aL => have := LMc21.out; omega); intro v123 w22 ho hb hg hat; rw [← Ny122.out] at ho; have n0_ := Az (hb); have n1_ := Az (ho); clear HB; clear HO_5; have HB := n0_; have HO124 := n1_; clear n0_ n1_; clear ho hb hg hat)); go_roundg k2; (case measure => have := HK1.out; have := HK2.out; omega); case rel => exact ⟨(y122), (wrap64 (x7_2 + 1)), mr, H', ⟨by have := HK1.out; have := HK2.out; omega⟩, ⟨by (with_reducible repeat (first | apply Kd.R_alloc | apply Kd.R_drewN | apply Kd.R_drew)); exact HO124.out⟩, ⟨(cB HB)⟩⟩
                      · rw [if_neg c21] at H; exact absurd H (by simp)
                    · rw [if_neg c20] at H; have c20b0 : (x7_2 == a1) = false := beq_eq_false_iff_ne.mpr c20; have c20b1 : (x7_2 != a1) = true := bne_iff_ne.mpr c20; by_cases c23 : x5_2.length < 17592186044416
                      · rw [if_pos c23] at H; have LMc23 := Aside0.mk c23; clear c23; obtain ⟨y125, hy125⟩ : ∃ y_ : List Int, y_ = (x5_2 ++ [0]) := ⟨_, rfl⟩; (replace H : (spec_l1Made.l1 k2 a0 a1 y125 x6_1 (wrap64 (x7_2 + 1))) = some r := by first | (rw [hy125]; with_reducible exact H) | (have H2_ := (Option.bind_some _ _).symm.trans H; rw [hy125]; with_reducible exact H2_) | (have H2_ := (Option.bind_some _ _).symm.trans H; with_reducible exact H2_) | with_reducible exact H | (rw [hy125]; exact H) | exact H); have Ny125 := Aside0.mk hy125; clear hy125; have H' := Aside0.mk H; clear H; go_wp2_with (first | ((with_reducible refine gate_builtin (b := .append) (xs := #[.tmp 57, .tmp 58]) rfl ?_); at_builtin; refine Kd.R_append (Kd.int .i64) (w0 := w) w.heap.size rfl (.tmp 57) (.tmp 58) 29 3 (.int .i64 0) 8 rfl Try.underlying29 info3 rfl (by decide) (by omega) u5 x5_2 0 [.int .i64 0] (fun _ => True) (fun _ => False) rfl rfl ?aP (fun _ hk => hk.elim) ?aF ?aO ?aB ?aS ?aL ?_; (case aP => exact rfl); (case aB => exact (cB HB)); (case aF => exact (fun _ _ => trivial)); (case aO => exact (dR (HO_5.out))); (case aS => exact (below_size (cB HB))); (case aL => have := LMc23.out; omega); intro v126 w24 ho hb hg hat; rw [← Ny125.out] at ho; have n0_ := Az (hb); have n1_ := Az (ho); clear HB; clear HO_5; have HB := n0_; have HO127 := n1_; clear n0_ n1_; clear ho hb hg hat)); go_roundg k2; (case measure => have := HK1.out; have := HK2.out; omega); case rel => exact ⟨(y125), (wrap64 (x7_2 + 1)), mr, H', ⟨by have := HK1.out; have := HK2.out; omega⟩, ⟨by (with_reducible repeat (first | apply Kd.R_alloc | apply Kd.R_drewN | apply Kd.R_drew)); exact HO127.out⟩, ⟨(cB HB)⟩⟩
                      · rw [if_neg c23] at H; exact absurd H (by simp)
                  · rw [if_neg c19] at H; have c19b0 : (a0 == 2) = false := beq_eq_false_iff_ne.mpr c19; have c19b1 : (a0 != 2) = true := bne_iff_ne.mpr c19; by_cases c25 : a0 = 3
                    · rw [if_pos c25] at H; have c25b0 : (a0 == 3) = true := beq_iff_eq.mpr c25; have c25b1 : (a0 != 3) = false := bne_eq_false_iff_eq.mpr c25; clear c25; by_cases c26 : (wrap64 (2 * x7_2)) > x6_1
                      · rw [if_pos c26] at H; have c26b0 : decide (x6_1 < (wrap64 (2 * x7_2))) = true := decide_eq_true c26; clear c26; by_cases c27 : x5_2.length < 17592186044416
                        · rw [if_pos c27] at H; have LMc27 := Aside0.mk c27; clear c27; obtain ⟨y128, hy128⟩ : ∃ y_ : List Int, y_ = (x5_2 ++ [1]) := ⟨_, rfl⟩; (replace H : (spec_l1Made.l1 k2 a0 a1 y128 x6_1 (wrap64 (x7_2 + 1))) = some r := by first | (rw [hy128]; with_reducible exact H) | (have H2_ := (Option.bind_some _ _).symm.trans H; rw [hy128]; with_reducible exact H2_) | (have H2_ := (Option.bind_some _ _).symm.trans H; with_reducible exact H2_) | with_reducible exact H | (rw [hy128]; exact H) | exact H); have Ny128 := Aside0.mk hy128; clear hy128; have H' := Aside0.mk H; clear H; go_wp2_with (first | ((with_reducible refine gate_builtin (b := .append) (xs := #[.tmp 54, .tmp 55]) rfl ?_); at_builtin; refine Kd.R_append (Kd.int .i64) (w0 := w) w.heap.size rfl (.tmp 54) (.tmp 55) 29 3 (.int .i64 0) 8 rfl Try.underlying29 info3 rfl (by decide) (by omega) u5 x5_2 1 [.int .i64 1] (fun _ => True) (fun _ => False) rfl rfl ?aP (fun _ hk => hk.elim) ?aF ?aO ?aB ?aS ?aL ?_; (case aP => exact rfl); (case aB => exact (cB HB)); (case aF => exact (fun _ _ => trivial)); (case aO => exact (dR (HO_5.out))); (case aS => exact (below_size (cB HB))); (case aL => have := LMc27.out; omega); intro v129 w28 ho hb hg hat; rw [← Ny128.out] at ho; have n0_ := Az (hb); have n1_ := Az (ho); clear HB; clear HO_5; have HB := n0_; have HO130 := n1_; clear n0_ n1_; clear ho hb hg hat)); go_roundg k2; (case measure => have := HK1.out; have := HK2.out; omega); case rel => exact ⟨(y128), (wrap64 (x7_2 + 1)), mr, H', ⟨by have := HK1.out; have := HK2.out; omega⟩, ⟨by (with_reducible repeat (first | apply Kd.R_alloc | apply Kd.R_drewN | apply Kd.R_drew)); exact HO130.out⟩, ⟨(cB HB)⟩⟩
                        · rw [if_neg c27] at H; exact absurd H (by simp)
                      · rw [if_neg c26] at H; have c26b0 : decide (x6_1 < (wrap64 (2 * x7_2))) = false := decide_eq_false c26; clear c26; by_cases c29 : x5_2.length < 17592186044416
                        · rw [if_pos c29] at H; have LMc29 := Aside0.mk c29; clear c29; obtain ⟨y131, hy131⟩ : ∃ y_ : List Int, y_ = (x5_2 ++ [0]) := ⟨_, rfl⟩; (replace H : (spec_l1Made.l1 k2 a0 a1 y131 x6_1 (wrap64 (x7_2 + 1))) = some r := by first | (rw [hy131]; with_reducible exact H) | (have H2_ := (Option.bind_some _ _).symm.trans H; rw [hy131]; with_reducible exact H2_) | (have H2_ := (Option.bind_some _ _).symm.trans H; with_reducible exact H2_) | with_reducible exact H | (rw [hy131]; exact H) | exact H); have Ny131 := Aside0.mk hy131; clear hy131; have H' := Aside0.mk H; clear H; go_wp2_with (first | ((with_reducible refine gate_builtin (b := .append) (xs := #[.tmp 57, .tmp 58]) rfl ?_); at_builtin; refine Kd.R_append (Kd.int .i64) (w0 := w) w.heap.size rfl (.tmp 57) (.tmp 58) 29 3 (.int .i64 0) 8 rfl Try.underlying29 info3 rfl (by decide) (by omega) u5 x5_2 0 [.int .i64 0] (fun _ => True) (fun _ => False) rfl rfl ?aP (fun _ hk => hk.elim) ?aF ?aO ?aB ?aS ?aL ?_; (case aP => exact rfl); (case aB => exact (cB HB)); (case aF => exact (fun _ _ => trivial)); (case aO => exact (dR (HO_5.out))); (case aS => exact (below_size (cB HB))); (case aL => have := LMc29.out; omega); intro v132 w30 ho hb hg hat; rw [← Ny131.out] at ho; have n0_ := Az (hb); have n1_ := Az (ho); clear HB; clear HO_5; have HB := n0_; have HO133 := n1_; clear n0_ n1_; clear ho hb hg hat)); go_roundg k2; (case measure => have := HK1.out; have := HK2.out; omega); case rel => exact ⟨(y131), (wrap64 (x7_2 + 1)), mr, H', ⟨by have := HK1.out; have := HK2.out; omega⟩, ⟨by (with_reducible repeat (first | apply Kd.R_alloc | apply Kd.R_drewN | apply Kd.R_drew)); exact HO133.out⟩, ⟨(cB HB)⟩⟩
                        · rw [if_neg c29] at H; exact absurd H (by simp)
                    · rw [if_neg c25] at H; have c25b0 : (a0 == 3) = false := beq_eq_false_iff_ne.mpr c25; have c25b1 : (a0 != 3) = true := bne_iff_ne.mpr c25; by_cases c31 : a0 = 4
                      · rw [if_pos c31] at H; have c31b0 : (a0 == 4) = true := beq_iff_eq.mpr c31; have c31b1 : (a0 != 4) = false := bne_eq_false_iff_eq.mpr c31; clear c31; by_cases c32 : (Int.tmod x7_2 2) = 0
                        · rw [if_pos c32] at H; have c32b0 : ((Int.tmod x7_2 2) == 0) = true := beq_iff_eq.mpr c32; have c32b1 : ((Int.tmod x7_2 2) != 0) = false := bne_eq_false_iff_eq.mpr c32; clear c32; by_cases c33 : x5_2.length < 17592186044416
                          · rw [if_pos c33] at H; have LMc33 := Aside0.mk c33; clear c33; obtain ⟨y134, hy134⟩ : ∃ y_ : List Int, y_ = (x5_2 ++ [1]) := ⟨_, rfl⟩; (replace H : (spec_l1Made.l1 k2 a0 a1 y134 x6_1 (wrap64 (x7_2 + 1))) = some r := by first | (rw [hy134]; with_reducible exact H) | (have H2_ := (Option.bind_some _ _).symm.trans H; rw [hy134]; with_reducible exact H2_) | (have H2_ := (Option.bind_some _ _).symm.trans H; with_reducible exact H2_) | with_reducible exact H | (rw [hy134]; exact H) | exact H); have Ny134 := Aside0.mk hy134; clear hy134; have H' := Aside0.mk H; clear H; go_wp2_with (first | ((with_reducible refine gate_builtin (b := .append) (xs := #[.tmp 54, .tmp 55]) rfl ?_); at_builtin; refine Kd.R_append (Kd.int .i64) (w0 := w) w.heap.size rfl (.tmp 54) (.tmp 55) 29 3 (.int .i64 0) 8 rfl Try.underlying29 info3 rfl (by decide) (by omega) u5 x5_2 1 [.int .i64 1] (fun _ => True) (fun _ => False) rfl rfl ?aP (fun _ hk => hk.elim) ?aF ?aO ?aB ?aS ?aL ?_; (case aP => exact rfl); (case aB => exact (cB HB)); (case aF => exact (fun _ _ => trivial)); (case aO => exact (dR (HO_5.out))); (case aS => exact (below_size (cB HB))); (case aL => have := LMc33.out; omega); intro v135 w34 ho hb hg hat; rw [← Ny134.out] at ho; have n0_ := Az (hb); have n1_ := Az (ho); clear HB; clear HO_5; have HB := n0_; have HO136 := n1_; clear n0_ n1_; clear ho hb hg hat)); go_roundg k2; (case measure => have := HK1.out; have := HK2.out; omega); case rel => exact ⟨(y134), (wrap64 (x7_2 + 1)), mr, H', ⟨by have := HK1.out; have := HK2.out; omega⟩, ⟨by (with_reducible repeat (first | apply Kd.R_alloc | apply Kd.R_drewN | apply Kd.R_drew)); exact HO136.out⟩, ⟨(cB HB)⟩⟩
                          · rw [if_neg c33] at H; exact absurd H (by simp)
                        · rw [if_neg c32] at H; have c32b0 : ((Int.tmod x7_2 2) == 0) = false := beq_eq_false_iff_ne.mpr c32; have c32b1 : ((Int.tmod x7_2 2) != 0) = true := bne_iff_ne.mpr c32; by_cases c35 : x5_2.length < 17592186044416
                          · rw [if_pos c35] at H; have LMc35 := Aside0.mk c35; clear c35; obtain ⟨y137, hy137⟩ : ∃ y_ : List Int, y_ = (x5_2 ++ [0]) := ⟨_, rfl⟩; (replace H : (spec_l1Made.l1 k2 a0 a1 y137 x6_1 (wrap64 (x7_2 + 1))) = some r := by first | (rw [hy137]; with_reducible exact H) | (have H2_ := (Option.bind_some _ _).symm.trans H; rw [hy137]; with_reducible exact H2_) | (have H2_ := (Option.bind_some _ _).symm.trans H; with_reducible exact H2_) | with_reducible exact H | (rw [hy137]; exact H) | exact H); have Ny137 := Aside0.mk hy137; clear hy137; have H' := Aside0.mk H; clear H; go_wp2_with (first | ((with_reducible refine gate_builtin (b := .append) (xs := #[.tmp 57, .tmp 58]) rfl ?_); at_builtin; refine Kd.R_append (Kd.int .i64) (w0 := w) w.heap.size rfl (.tmp 57) (.tmp 58) 29 3 (.int .i64 0) 8 rfl Try.underlying29 info3 rfl (by decide) (by omega) u5 x5_2 0 [.int .i64 0] (fun _ => True) (fun _ => False) rfl rfl ?aP (fun _ hk => hk.elim) ?aF ?aO ?aB ?aS ?aL ?_; (case aP => exact rfl); (case aB => exact (cB HB)); (case aF => exact (fun _ _ => trivial)); (case aO => exact (dR (HO_5.out))); (case aS => exact (below_size (cB HB))); (case aL => have := LMc35.out; omega); intro v138 w36 ho hb hg hat; rw [← Ny137.out] at ho; have n0_ := Az (hb); have n1_ := Az (ho); clear HB; clear HO_5; have HB := n0_; have HO139 := n1_; clear n0_ n1_; clear ho hb hg hat)); go_roundg k2; (case measure => have := HK1.out; have := HK2.out; omega); case rel => exact ⟨(y137), (wrap64 (x7_2 + 1)), mr, H', ⟨by have := HK1.out; have := HK2.out; omega⟩, ⟨by (with_reducible repeat (first | apply Kd.R_alloc | apply Kd.R_drewN | apply Kd.R_drew)); exact HO139.out⟩, ⟨(cB HB)⟩⟩
                          · rw [if_neg c35] at H; exact absurd H (by simp)
                      · rw [if_neg c31] at H; have c31b0 : (a0 == 4) = false := beq_eq_false_iff_ne.mpr c31; have c31b1 : (a0 != 4) = true := bne_iff_ne.mpr c31; by_cases c37 : a0 = 5
                        · rw [if_pos c37] at H; have c37b0 : (a0 == 5) = true := beq_iff_eq.mpr c37; have c37b1 : (a0 != 5) = false := bne_eq_false_iff_eq.mpr c37; clear c37; by_cases c38 : (wrap64 (x6_1 - x7_2)) = a1
                          · rw [if_pos c38] at H; have c38b0 : ((wrap64 (x6_1 - x7_2)) == a1) = true := beq_iff_eq.mpr c38; have c38b1 : ((wrap64 (x6_1 - x7_2)) != a1) = false := bne_eq_false_iff_eq.mpr c38; clear c38; by_cases c39 : x5_2.length < 17592186044416
                            · rw [if_pos c39] at H; have LMc39 := Aside0.mk c39; clear c39; obtain ⟨y140, hy140⟩ : ∃ y_ : List Int, y_ = (x5_2 ++ [1]) := ⟨_, rfl⟩; (replace H : (spec_l1Made.l1 k2 a0 a1 y140 x6_1 (wrap64 (x7_2 + 1))) = some r := by first | (rw [hy140]; with_reducible exact H) | (have H2_ := (Option.bind_some _ _).symm.trans H; rw [hy140]; with_reducible exact H2_) | (have H2_ := (Option.bind_some _ _).symm.trans H; with_reducible exact H2_) | with_reducible exact H | (rw [hy140]; exact H) | exact H); have Ny140 := Aside0.mk hy140; clear hy140; have H' := Aside0.mk H; clear H; go_wp2_with (first | ((with_reducible refine gate_builtin (b := .append) (xs := #[.tmp 54, .tmp 55]) rfl ?_); at_builtin; refine Kd.R_append (Kd.int .i64) (w0 := w) w.heap.size rfl (.tmp 54) (.tmp 55) 29 3 (.int .i64 0) 8 rfl Try.underlying29 info3 rfl (by decide) (by omega) u5 x5_2 1 [.int .i64 1] (fun _ => True) (fun _ => False) rfl rfl ?aP (fun _ hk => hk.elim) ?aF ?aO ?aB ?aS ?aL ?_; (case aP => exact rfl); (case aB => exact (cB HB)); (case aF => exact (fun _ _ => trivial)); (case aO => exact (dR (HO_5.out))); (case aS => exact (below_size (cB HB))); (case aL => have := LMc39.out; omega); intro v141 w40 ho hb hg hat; rw [← Ny140.out] at ho; have n0_ := Az (hb); have n1_ := Az (ho); clear HB; clear HO_5; have HB := n0_; have HO142 := n1_; clear n0_ n1_; clear ho hb hg hat)); go_roundg k2; (case measure => have := HK1.out; have := HK2.out; omega); case rel => exact ⟨(y140), (wrap64 (x7_2 + 1)), mr, H', ⟨by have := HK1.out; have := HK2.out; omega⟩, ⟨by (with_reducible repeat (first | apply Kd.R_alloc | apply Kd.R_drewN | apply Kd.R_drew)); exact HO142.out⟩, ⟨(cB HB)⟩⟩
                            · rw [if_neg c39] at H; exact absurd H (by simp)
                          · rw [if_neg c38] at H; have c38b0 : ((wrap64 (x6_1 - x7_2)) == a1) = false := beq_eq_false_iff_ne.mpr c38; have c38b1 : ((wrap64 (x6_1 - x7_2)) != a1) = true := bne_iff_ne.mpr c38; by_cases c41 : x5_2.length < 17592186044416
                            · rw [if_pos c41] at H; have LMc41 := Aside0.mk c41; clear c41; obtain ⟨y143, hy143⟩ : ∃ y_ : List Int, y_ = (x5_2 ++ [0]) := ⟨_, rfl⟩; (replace H : (spec_l1Made.l1 k2 a0 a1 y143 x6_1 (wrap64 (x7_2 + 1))) = some r := by first | (rw [hy143]; with_reducible exact H) | (have H2_ := (Option.bind_some _ _).symm.trans H; rw [hy143]; with_reducible exact H2_) | (have H2_ := (Option.bind_some _ _).symm.trans H; with_reducible exact H2_) | with_reducible exact H | (rw [hy143]; exact H) | exact H); have Ny143 := Aside0.mk hy143; clear hy143; have H' := Aside0.mk H; clear H; go_wp2_with (first | ((with_reducible refine gate_builtin (b := .append) (xs := #[.tmp 57, .tmp 58]) rfl ?_); at_builtin; refine Kd.R_append (Kd.int .i64) (w0 := w) w.heap.size rfl (.tmp 57) (.tmp 58) 29 3 (.int .i64 0) 8 rfl Try.underlying29 info3 rfl (by decide) (by omega) u5 x5_2 0 [.int .i64 0] (fun _ => True) (fun _ => False) rfl rfl ?aP (fun _ hk => hk.elim) ?aF ?aO ?aB ?aS ?aL ?_; (case aP => exact rfl); (case aB => exact (cB HB)); (case aF => exact (fun _ _ => trivial)); (case aO => exact (dR (HO_5.out))); (case aS => exact (below_size (cB HB))); (case aL => have := LMc41.out; omega); intro v144 w42 ho hb hg hat; rw [← Ny143.out] at ho; have n0_ := Az (hb); have n1_ := Az (ho); clear HB; clear HO_5; have HB := n0_; have HO145 := n1_; clear n0_ n1_; clear ho hb hg hat)); go_roundg k2; (case measure => have := HK1.out; have := HK2.out; omega); case rel => exact ⟨(y143), (wrap64 (x7_2 + 1)), mr, H', ⟨by have := HK1.out; have := HK2.out; omega⟩, ⟨by (with_reducible repeat (first | apply Kd.R_alloc | apply Kd.R_drewN | apply Kd.R_drew)); exact HO145.out⟩, ⟨(cB HB)⟩⟩
                            · rw [if_neg c41] at H; exact absurd H (by simp)
                        · rw [if_neg c37] at H; have c37b0 : (a0 == 5) = false := beq_eq_false_iff_ne.mpr c37; have c37b1 : (a0 != 5) = true := bne_iff_ne.mpr c37; by_cases c43 : x5_2.length < 17592186044416
                          · rw [if_pos c43] at H; have LMc43 := Aside0.mk c43; clear c43; obtain ⟨y146, hy146⟩ : ∃ y_ : List Int, y_ = (x5_2 ++ [0]) := ⟨_, rfl⟩; (replace H : (spec_l1Made.l1 k2 a0 a1 y146 x6_1 (wrap64 (x7_2 + 1))) = some r := by first | (rw [hy146]; with_reducible exact H) | (have H2_ := (Option.bind_some _ _).symm.trans H; rw [hy146]; with_reducible exact H2_) | (have H2_ := (Option.bind_some _ _).symm.trans H; with_reducible exact H2_) | with_reducible exact H | (rw [hy146]; exact H) | exact H); have Ny146 := Aside0.mk hy146; clear hy146; have H' := Aside0.mk H; clear H; go_wp2_with (first | ((with_reducible refine gate_builtin (b := .append) (xs := #[.tmp 57, .tmp 58]) rfl ?_); at_builtin; refine Kd.R_append (Kd.int .i64) (w0 := w) w.heap.size rfl (.tmp 57) (.tmp 58) 29 3 (.int .i64 0) 8 rfl Try.underlying29 info3 rfl (by decide) (by omega) u5 x5_2 0 [.int .i64 0] (fun _ => True) (fun _ => False) rfl rfl ?aP (fun _ hk => hk.elim) ?aF ?aO ?aB ?aS ?aL ?_; (case aP => exact rfl); (case aB => exact (cB HB)); (case aF => exact (fun _ _ => trivial)); (case aO => exact (dR (HO_5.out))); (case aS => exact (below_size (cB HB))); (case aL => have := LMc43.out; omega); intro v147 w44 ho hb hg hat; rw [← Ny146.out] at ho; have n0_ := Az (hb); have n1_ := Az (ho); clear HB; clear HO_5; have HB := n0_; have HO148 := n1_; clear n0_ n1_; clear ho hb hg hat)); go_roundg k2; (case measure => have := HK1.out; have := HK2.out; omega); case rel => exact ⟨(y146), (wrap64 (x7_2 + 1)), mr, H', ⟨by have := HK1.out; have := HK2.out; omega⟩, ⟨by (with_reducible repeat (first | apply Kd.R_alloc | apply Kd.R_drewN | apply Kd.R_drew)); exact HO148.out⟩, ⟨(cB HB)⟩⟩
                          · rw [if_neg c43] at H; exact absurd H (by simp)
            · rw [if_neg c6] at H; have c6b0 : decide (x7_2 ≤ x6_1) = false := decide_eq_false c6; clear c6; have H' := Aside0.mk H; clear H; go_wp2; go_roundg k2; (case measure => have := HK1.out; have := HK2.out; omega); case rel => exact ⟨(x5_2), (wrap64 (x6_1 + 1)), mr, H', ⟨by have := HK1.out; have := HK2.out; omega⟩, ⟨by (with_reducible repeat (first | apply Kd.R_alloc | apply Kd.R_drewN | apply Kd.R_drew)); exact HO_5.out⟩, ⟨(cB HB)⟩⟩
      · rw [if_neg c5] at H; have c5b0 : decide (x6_1 ≤ 5) = false := decide_eq_false c5; clear c5; obtain rfl := Option.some.inj H; go_wp2; go_ret; exact ⟨_, rt, by (with_reducible repeat (first | apply Kd.R_alloc | apply Kd.R_drewN | apply Kd.R_drew)); exact HO_5.out, (cB HB)⟩

end Go.Proofs.Ytfjfdnododnepaa.PFnTrueOf
