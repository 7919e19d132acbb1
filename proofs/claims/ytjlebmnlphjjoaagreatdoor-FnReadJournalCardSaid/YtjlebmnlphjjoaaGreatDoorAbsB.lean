import Derived.Test.YtjlebmnlphjjoaaGreatDoorAbsA
import Derived.Laws.BytesString
import Derived.Great.BuildSlice
set_option linter.unusedVariables false
set_option linter.unusedSimpArgs false
namespace Go.Proofs.YtjlebmnlphjjoaaGreatDoor.Abs

section
variable {P : Program} {w0 : World} {S : Nat → Prop} {fz0 : Fz} {g : G} {s : Nat → K} {w w' : World} {E : Env} {C : CFT} {d : Nat} {gf : Opd → AV}

theorem sliceBounds_ok {isSlice : Bool} {len cap : Nat} {lo hi : Option Value} {l h : Nat} (hlo : lo = none ∧ l = 0 ∨ ∃ k, lo = some (.int k l)) (hhi : hi = none ∧ h = len ∨ ∃ k, hi = some (.int k h)) (hl : l ≤ h) (hh : h ≤ cap) :
    (Instr.sliceBounds isSlice len cap lo hi none).run P w = .ok (l, h, cap) w := by
  have b1 : ∀ (c : BoundsCode) k, (Instr.sliceBound (.int k (h : Int)) cap c).run P w = .ok h w := fun c k => by
    have : (0 : Int) ≤ h ∧ (h : Int) ≤ cap := by omega
    simp [Instr.sliceBound, asIntOf, this]
  have b2 : ∀ (c : BoundsCode) k, (Instr.sliceBound (.int k (l : Int)) h c).run P w = .ok l w := fun c k => by
    have : (0 : Int) ≤ l ∧ (l : Int) ≤ h := by omega
    simp [Instr.sliceBound, asIntOf, this]
  rcases hlo with ⟨rfl, rfl⟩ | ⟨k1, rfl⟩ <;> rcases hhi with ⟨rfl, rfl⟩ | ⟨k2, rfl⟩ <;> simp [Instr.sliceBounds, b1, b2]

theorem sliceBounds3_ok {isSlice : Bool} {len cap : Nat} {lo hi : Option Value} {l h m : Nat} {k3 : IntKind} (hlo : lo = none ∧ l = 0 ∨ ∃ k, lo = some (.int k l)) (hhi : ∃ k, hi = some (.int k h)) (hl : l ≤ h) (hh : h ≤ m) (hm : m ≤ cap) :
    (Instr.sliceBounds isSlice len cap lo hi (some (.int k3 m))).run P w = .ok (l, h, m) w := by
  have b0 : ∀ (c : BoundsCode) k, (Instr.sliceBound (.int k (m : Int)) cap c).run P w = .ok m w := fun c k => by
    have : (0 : Int) ≤ m ∧ (m : Int) ≤ cap := by omega
    simp [Instr.sliceBound, asIntOf, this]
  have b1 : ∀ (c : BoundsCode) k, (Instr.sliceBound (.int k (h : Int)) m c).run P w = .ok h w := fun c k => by
    have : (0 : Int) ≤ h ∧ (h : Int) ≤ m := by omega
    simp [Instr.sliceBound, asIntOf, this]
  have b2 : ∀ (c : BoundsCode) k, (Instr.sliceBound (.int k (l : Int)) h c).run P w = .ok l w := fun c k => by
    have : (0 : Int) ≤ l ∧ (l : Int) ≤ h := by omega
    simp [Instr.sliceBound, asIntOf, this]
  rcases hlo with ⟨rfl, rfl⟩ | ⟨k1, rfl⟩ <;> obtain ⟨k2, rfl⟩ := hhi <;> simp [Instr.sliceBounds, b0, b1, b2]

theorem sliceAt_run {t e : TypeId} (ht : P.underlying t = some (.slice e)) (hok : okT P e = true) {b : Option Addr} {n cap l h : Nat} {lo hi mx : Option Value} {m : Nat} (hb : (Instr.sliceBounds true n cap lo hi mx).run P w = .ok (l, h, m) w) :
    (Instr.sliceAt t (.slice b n cap) lo hi mx).run P w = .ok (.slice (if m = l then b else b.map (·.add (l * P.cellsOf e))) (h - l) (m - l)) w := by
  simp [Instr.sliceAt, Instr.slice, run_underlying ht, hb, sizeOf_run hok]

/-- The slots' values, by operand. -/
def ORel (g : G) (s : Nat → K) (ρ : Operand → Value) (gf : Opd → AV) : Prop := ∀ o, RepA g s (ρ o) (gf (cOpd o))

theorem intOf_rep {v : Value} {x : AV} {n : Int} (hv : RepA g s v x) (h : intOf? x = some n) : ∃ k, v = .int k n := by
  unfold intOf? at h
  split at h
  · simp at h; subst h; cases hv; exact ⟨_, rfl⟩
  · cases h

theorem optInt_rep {ρ : Operand → Value} (hO : ORel g s ρ gf) {o : Option Operand} {dflt n : Int} (h : optInt gf dflt (o.map cOpd) = some n) : (o = none ∧ n = dflt) ∨ ∃ x k, o = some x ∧ ρ x = .int k n := by
  cases o with
  | none => simp [optInt] at h; exact .inl ⟨rfl, h.symm⟩
  | some x =>
    simp only [Option.map_some, optInt] at h
    obtain ⟨k, hk⟩ := intOf_rep (hO x) h
    exact .inr ⟨x, k, rfl, hk⟩

theorem repEls_take {fz : Fz} {b z : Nat} : ∀ {o : Nat} {xs : List PV} (n : Nat), RepEls fz b o z xs → RepEls fz b o z (xs.take n)
  | _, _, 0, h => by simp; exact .nil _ _ _
  | _, _, n + 1, .nil b o z => by simp; exact .nil _ _ _
  | _, _, n + 1, .cons b o z x xs h1 h2 r => by rw [List.take_succ_cons]; exact .cons b o z x _ h1 h2 (repEls_take n r)

theorem repEls_drop {fz : Fz} {b z : Nat} : ∀ {o : Nat} {xs : List PV} (n : Nat), RepEls fz b o z xs → RepEls fz b (o + n * z) z (xs.drop n)
  | _, _, 0, h => by simpa using h
  | _, _, n + 1, .nil b o z => by simp; exact .nil _ _ _
  | _, _, n + 1, .cons b o z x xs h1 h2 r => by
    rw [List.drop_succ_cons]
    have := repEls_drop n r
    have e : o + (n + 1) * z = o + z + n * z := by rw [Nat.add_mul, Nat.one_mul]; omega
    rw [e]; exact this

/-- Slicing. -/
theorem slc_run {ρ : Operand → Value} (h : Inv w0 S fz0 g s w) (hO : ORel g s ρ gf) {t : TypeId} {z : Nat} (ht : (P.underlying t = some .string ∧ z = 0) ∨ ∃ e, P.underlying t = some (.slice e) ∧ okT P e = true ∧ z = P.cellsOf e ∧ z ≠ 0) {x : Operand} {lo hi mx : Option Operand} {r : AV}
    (hs : slcAV s z (gf (cOpd x)) gf (lo.map cOpd) (hi.map cOpd) (mx.map cOpd) = some r) :
    ∃ v, (Instr.sliceAt t (ρ x) (lo.map ρ) (hi.map ρ) (mx.map ρ)).run P w = .ok v w ∧ RepA g s v r := by
  have hx := hO x
  have bounds : ∀ {dflt l hh : Int} {hi : Option Operand}, optInt gf 0 (lo.map cOpd) = some l → optInt gf dflt (hi.map cOpd) = some hh → 0 ≤ l → l ≤ hh →
      (lo.map ρ = none ∧ l.toNat = 0 ∨ ∃ k, lo.map ρ = some (.int k (l.toNat : Int))) ∧ (hi.map ρ = none ∧ hh = dflt ∨ ∃ k, hi.map ρ = some (.int k (hh.toNat : Int))) := by
    intro dflt l hh hi h1 h2 h3 h4
    constructor
    · rcases optInt_rep hO h1 with ⟨rfl, rfl⟩ | ⟨y, k, rfl, hk⟩
      · exact .inl ⟨rfl, rfl⟩
      · exact .inr ⟨k, by simp [hk]; omega⟩
    · rcases optInt_rep hO h2 with ⟨rfl, rfl⟩ | ⟨y, k, rfl, hk⟩
      · exact .inl ⟨rfl, rfl⟩
      · exact .inr ⟨k, by simp [hk]; omega⟩
  unfold slcAV at hs
  split at hs
  · rename_i b hg
    rw [hg] at hx
    split at hs
    · rename_i l hh hl1 hh1
      split at hs
      · rename_i hc
        obtain ⟨hz, hmx, h0, hlh, hhb⟩ := hc
        simp only [Option.some.injEq] at hs; subst hs
        have hmx' : mx = none := by cases mx <;> simp at hmx ⊢
        subst hmx'
        rcases ht with ⟨ht, _⟩ | ⟨e, _, _, _, hne⟩
        · generalize ρ x = vx at hx ⊢
          cases hx
          obtain ⟨b1, b2⟩ := bounds hl1 hh1 h0 hlh
          have b2' : hi.map ρ = none ∧ hh.toNat = b.size ∨ ∃ k, hi.map ρ = some (.int k (hh.toNat : Int)) := b2.imp (fun ⟨p, q⟩ => ⟨p, by omega⟩) id
          refine ⟨_, ?_, RepP.str _⟩
          simp [Instr.sliceAt, Instr.slice, run_underlying ht, sliceBounds_ok (P := P) (w := w) (isSlice := false) (cap := b.size) b1 b2' (by omega) (by omega)]
        · exact absurd hz hne
      · cases hs
    · cases hs
  · rename_i z' xs hg
    rw [hg] at hx
    split at hs
    · rename_i l hh hl1 hh1
      split at hs
      · rename_i hc
        obtain ⟨hz, hz0, h0, hlh, hhb, hmx⟩ := hc
        subst hz
        simp only [Option.some.injEq] at hs; subst hs
        have hmx' : mx = none := by cases mx <;> simp at hmx ⊢
        subst hmx'
        rcases ht with ⟨_, hz⟩ | ⟨e, ht, hok, hze, _⟩
        · exact absurd hz hz0
        · generalize ρ x = vx at hx ⊢
          obtain ⟨b1, b2⟩ := bounds hl1 hh1 h0 hlh
          have b2' : hi.map ρ = none ∧ hh.toNat = xs.length ∨ ∃ k, hi.map ρ = some (.int k (hh.toNat : Int)) := b2.imp (fun ⟨p, q⟩ => ⟨p, by omega⟩) id
          cases hx with
          | lsn =>
            have hl0 : l.toNat = 0 := by simp at hhb; omega
            have hh0 : hh.toNat = 0 := by simp at hhb; omega
            have hb := sliceBounds_ok (P := P) (w := w) (isSlice := true) (len := 0) (cap := 0) b1 b2' (by omega) (by omega)
            refine ⟨_, sliceAt_run ht hok hb, ?_⟩
            rw [hl0, hh0]; exact RepP.lsn _
          | ls b o cap _ _ he hcap =>
            have hb := sliceBounds_ok (P := P) (w := w) (isSlice := true) (len := xs.length) (cap := cap) b1 b2' (by omega) (by omega)
            have hlen : ((xs.take hh.toNat).drop l.toNat).length = hh.toNat - l.toNat := by simp; omega
            refine ⟨_, sliceAt_run ht hok hb, ?_⟩
            by_cases hcl : cap = l.toNat
            · rw [if_pos hcl]
              have e1 : (xs.take hh.toNat).drop l.toNat = [] := List.eq_nil_of_length_eq_zero (by rw [hlen]; omega)
              have e2 : hh.toNat - l.toNat = 0 := by omega
              have e3 : cap - l.toNat = 0 := by omega
              rw [e1, e2, e3]
              exact RepP.ls b o 0 _ [] (.nil _ _ _) (Nat.le_refl _)
            · rw [if_neg hcl]
              have := RepP.ls (fz := g.fz) b (o + l.toNat * P.cellsOf e) (cap - l.toNat) (P.cellsOf e) ((xs.take hh.toNat).drop l.toNat) (by rw [← hze]; exact repEls_drop _ (repEls_take _ he)) (by rw [hlen]; omega)
              rw [hlen] at this
              simp only [Option.map_some, add_lit]
              rw [hze]; exact this
      · cases hs
    · cases hs
  · rename_i k ver o n z' hg
    rw [hg] at hx
    simp only [lk] at hs
    split at hs
    · rename_i els hels
      split at hels
      · rename_i hver
        split at hs
        · rename_i l hh hl1 hh1
          split at hs
          · rename_i hc
            obtain ⟨hz, hz0, h0, hlh, hhb⟩ := hc
            subst hz
            rcases ht with ⟨_, hz⟩ | ⟨e, ht, hok, hze, _⟩
            · exact absurd hz hz0
            · obtain ⟨_, hvle, h6⟩ := hx
              have h6 := h6 hver
              generalize ρ x = vx at h6 ⊢
              obtain ⟨b1, b2⟩ := bounds hl1 hh1 h0 hlh
              have b2' : hi.map ρ = none ∧ hh.toNat = n ∨ ∃ k, hi.map ρ = some (.int k (hh.toNat : Int)) := b2.imp (fun ⟨p, q⟩ => ⟨p, by omega⟩) id
              -- the slice has room for what it is cut to
              obtain ⟨b, cap, rfl, hroom, hn⟩ : ∃ b cap, vx = .slice b n cap ∧ hh.toNat ≤ cap ∧ n ≤ cap := by
                rcases h6 with ⟨b, rfl, hb, rfl, hl⟩ | ⟨p, cap, hp, hzz, rfl, hcn, hC, hl⟩
                · have := hl els hels
                  exact ⟨b, 0, rfl, by omega, Nat.le_refl _⟩
                · have := hl els hels
                  exact ⟨_, cap, rfl, by omega, hcn⟩
              split at hs
              · rename_i hmx
                have hmx' : mx = none := by cases mx <;> simp at hmx ⊢
                subst hmx'
                simp only [Option.some.injEq] at hs; subst hs
                have hb := sliceBounds_ok (P := P) (w := w) (isSlice := true) (len := n) (cap := cap) b1 b2' (by omega) hroom
                refine ⟨_, sliceAt_run ht hok hb, ⟨_, _, rfl⟩, hvle, fun _ => ?_⟩
                rcases h6 with ⟨b', hv', hb', hn0, hl⟩ | ⟨p, cap', hp, hzz, hv', hcn, hC, hl⟩
                · simp only [Value.slice.injEq] at hv'
                  obtain ⟨rfl, hn0', rfl⟩ := hv'
                  have := hl els hels
                  have hl0 : l.toNat = 0 := by omega
                  refine .inl ⟨b, ?_, hb', by omega, fun els' he => by have := hl els' he; omega⟩
                  have e1 : hh.toNat - l.toNat = 0 := by omega
                  rw [e1, hl0]; rfl
                · simp only [Value.slice.injEq] at hv'
                  obtain ⟨rfl, _, rfl⟩ := hv'
                  by_cases hcl : cap = l.toNat
                  · rw [if_pos hcl]
                    refine .inl ⟨some ⟨p.b, p.base + o * z', none⟩, ?_, (by intro a h; cases h; rfl), by omega, fun els' he => by have := hl els' he; omega⟩
                    have e1 : hh.toNat - l.toNat = 0 := by omega
                    have e2 : cap - l.toNat = 0 := by omega
                    rw [e1, e2]
                  · rw [if_neg hcl]
                    have e0 : p.base + o * z' + l.toNat * z' = p.base + (o + l.toNat) * z' := by rw [Nat.add_mul]; omega
                    refine .inr ⟨p, cap - l.toNat, hp, hzz, ?_, by omega, ?_, fun els' he => by have := hl els' he; rw [hels] at he; simp only [Option.some.injEq] at he; subst he; omega⟩
                    · simp only [Option.map_some, add_lit, ← hze, e0]
                    · have : o + l.toNat + (cap - l.toNat) = o + cap := by omega
                      rw [this]; exact hC
              · rename_i m hmx
                split at hs
                · rename_i hm
                  simp only [Option.some.injEq] at hs; subst hs
                  cases mx with
                  | none => simp at hmx
                  | some mo =>
                    simp only [Option.map_some, Option.some.injEq] at hmx
                    subst hmx
                    obtain ⟨k3, hk3⟩ := intOf_rep (hO mo) hm.1
                    have b3 : ∃ k, hi.map ρ = some (.int k (hh.toNat : Int)) := by
                      rcases b2' with ⟨hn1, _⟩ | h
                      · cases hi with
                        | none => simp at hm
                        | some y => simp at hn1
                      · exact h
                    have hb := sliceBounds3_ok (P := P) (w := w) (isSlice := true) (len := n) (cap := cap) (m := n) (k3 := k3) b1 b3 (by omega) (by omega) hn
                    have hrun := sliceAt_run (b := b) ht hok hb
                    rw [← hk3] at hrun
                    exact ⟨_, hrun, trivial⟩
                · cases hs
          · cases hs
        · cases hs
      · cases hels
    · cases hs
  · cases hs

end
end Go.Proofs.YtjlebmnlphjjoaaGreatDoor.Abs
namespace Go.Proofs.YtjlebmnlphjjoaaGreatDoor.Abs

section
variable {P : Program} {w0 : World} {S : Nat → Prop} {fz0 : Fz} {g : G} {s : Nat → K} {w w' : World} {E : Env} {C : CFT} {d : Nat} {gf : Opd → AV} {ρ : Operand → Value}

theorem Good.val (h : Inv w0 S fz0 g s w) {m : Sem Value} {v : Value} {x : AV} (hr : m.run P w = .ok v w) (hv : RepA g s v x) : Good w0 S fz0 g s [] x ((do let y ← m; Pure.pure (Next.value y) : Sem Next).run P w) :=
  Good.pure h (val_run m v w hr) hv

theorem Good.new {us : List (Nat × K)} {m : Sem Value} {v : Value} {x : AV} {g' : G} (hr : m.run P w = .ok v w') (hv : RepA g' (updAll s us) v x) (hI : Inv w0 S fz0 g' (updAll s us) w') (hE : Ext g s g' (updAll s us)) :
    Good w0 S fz0 g s us x ((do let y ← m; Pure.pure (Next.value y) : Sem Next).run P w) :=
  ⟨_, w', g', v, val_run m v w' hr, .inl rfl, hv, hI, hE⟩

theorem bool_rep {v : Value} {b : Bool} (h : RepA g s v (.p (.bool b))) : v = .bool b := by cases h; rfl
theorem int_rep {v : Value} {k : IntKind} {n : Int} (h : RepA g s v (.p (.int k n))) : v = .int k n := by cases h; rfl

theorem str_rep {v : Value} {b : ByteArray} (h : RepA g s v (.p (.str b))) : v = .string b := by cases h; rfl

theorem bin_good (h : Inv w0 S fz0 g s w) (hO : ORel g s ρ gf) {op : BinOp} {t : TypeId} {x y : Operand} {r : AV} {fl : List TypeId} (hfl : FlOk P fl) (hs : binAV op (eqKind P fl t) (gf (cOpd x)) (gf (cOpd y)) = some r) :
    Good w0 S fz0 g s [] r ((do let z ← (do eqGuard op t x y (ρ x) (ρ y); binOp op t (ρ x) (ρ y)); Pure.pure (Next.value z) : Sem Next).run P w) := by
  have hx := hO x; have hy := hO y
  unfold binAV at hs
  split at hs
  · rename_i k a k' b hgx hgy
    rw [hgx] at hx; rw [hgy] at hy
    rw [int_rep hx, int_rep hy]
    split at hs
    · split at hs
      · cases hs
      · rename_i hb
        simp only [Option.some.injEq] at hs; subst hs
        exact Good.val h (v := .int k (k.wrap (a * 2 ^ (min b.toNat k.bits)))) (by simp [eqGuard_int, binOp, Op.shift, hb]) (RepP.int _ _)
    · split at hs
      · cases hs
      · rename_i hb
        simp only [Option.some.injEq] at hs; subst hs
        exact Good.val h (v := .int k (a.fdiv (2 ^ (min b.toNat k.bits)))) (by simp [eqGuard_int, binOp, Op.shift, hb]) (RepP.int _ _)
    · split at hs
      · rename_i hk; subst hk
        obtain ⟨v, hv1, hv2⟩ := binInt_run (P := P) (w := w) (t := t) (g := g) (s := s) hs
        exact Good.val h (v := v) (by simp [eqGuard_int, hv1]) hv2
      · cases hs
  · rename_i a b hgx hgy
    rw [hgx] at hx; rw [hgy] at hy
    rw [str_rep hx, str_rep hy]
    obtain ⟨v, hv1, hv2⟩ := binStr_run (P := P) (w := w) (t := t) (g := g) (s := s) hs
    exact Good.val h (v := v) (by simp [eqGuard_str, hv1]) hv2
  · split at hs
    · split at hs
      · rename_i r' hr
        simp only [Option.some.injEq] at hs; subst hs
        obtain ⟨h1, h2, h3, h4⟩ := eqAV_run (P := P) (w := w) (x := x) (y := y) hx hy hfl hr
        exact Good.val h (v := .bool r') (by simp [h1, h3]) (RepP.bool _)
      · cases hs
    · split at hs
      · rename_i r' hr
        simp only [Option.some.injEq] at hs; subst hs
        obtain ⟨h1, h2, h3, h4⟩ := eqAV_run (P := P) (w := w) (x := x) (y := y) hx hy hfl hr
        exact Good.val h (v := .bool (!r')) (by simp [h2, h4]) (RepP.bool _)
      · cases hs
    · cases hs

theorem un_good (h : Inv w0 S fz0 g s w) (hO : ORel g s ρ gf) {op : UnOp} {x : Operand} {r : AV} (hs : unAV op (gf (cOpd x)) = some r) :
    Good w0 S fz0 g s [] r ((do let z ← Op.unary op (ρ x); Pure.pure (Next.value z) : Sem Next).run P w) := by
  have hx := hO x
  unfold unAV at hs
  split at hs
  · rename_i k n hg
    rw [hg] at hx
    simp only [Option.some.injEq] at hs; subst hs
    exact Good.val h (v := .int k (k.wrap (0 - n))) (by rw [int_rep hx]; simp [Op.unary, Op.intArith]) (RepP.int _ _)
  · rename_i b hg
    rw [hg] at hx
    simp only [Option.some.injEq] at hs; subst hs
    exact Good.val h (v := .bool (!b)) (by rw [bool_rep hx]; simp [Op.unary]) (RepP.bool _)
  · cases hs

theorem nilck_good (h : Inv w0 S fz0 g s w) (hO : ORel g s ρ gf) {x : Operand} {r : AV} {us : List (Nat × K)} {o : Oper} (ho : o.op = .nilCheck x) (hs : sem E C d (.nilck (cOpd x)) gf s = some (r, us)) :
    Good w0 S fz0 g s us r ((execOp ρ o).run P w) := by
  have hx := hO x
  simp only [sem] at hs
  split at hs
  · rename_i k v i o' hg
    rw [hg] at hx
    simp only [Option.some.injEq, Prod.mk.injEq] at hs; obtain ⟨rfl, rfl⟩ := hs
    obtain ⟨a, ha⟩ := hx.1
    exact Good.pure h (v := ρ x) (by simp [execOp, ho, ha]) hx
  · rename_i cs o' hg
    rw [hg] at hx
    simp only [Option.some.injEq, Prod.mk.injEq] at hs; obtain ⟨rfl, rfl⟩ := hs
    obtain ⟨a, ha⟩ : ∃ a, ρ x = .pointer (some a) := by
      generalize ρ x = v at hx; cases hx; exact ⟨_, rfl⟩
    exact Good.pure h (v := ρ x) (by simp [execOp, ho, ha]) hx
  · cases hs

theorem fad_run (hO : ORel g s ρ gf) {t : TypeId} {fs : Array Field} {i : Nat} {f : Field} (ht : P.underlying t = some (.struct fs)) (hf : fs[i]? = some f) (hz : ¬ P.cellsOf f.type = 0) {x : Operand} {r : AV} {us : List (Nat × K)}
    (hs : sem E C d (.fad f.offset (cOpd x)) gf s = some (r, us)) : us = [] ∧ ∃ v, (Instr.fieldAt t (ρ x) i).run P w = .ok v w ∧ RepA g s v r := by
  have hx := hO x
  have hi : ∃ i, P.info? f.type = some i := by
    cases h : P.info? f.type with
    | none => simp [Program.cellsOf, h] at hz
    | some i => exact ⟨i, rfl⟩
  obtain ⟨fi, hfi⟩ := hi
  have hsz : (sizeOf f.type).run P w = .ok (P.cellsOf f.type) w := by simp [sizeOf, typeInfo, hfi, Program.cellsOf]
  have run : ∀ a, (Instr.fieldAt t (.pointer (some a)) i).run P w = .ok (.pointer (some (a.add f.offset))) w := fun a => by
    simp [Instr.fieldAt, run_underlying ht, hf, Instr.sureAddr, fieldPlace, hsz, hz]
  simp only [sem] at hs
  split at hs
  · rename_i k v j o hg
    rw [hg] at hx
    simp only [Option.some.injEq, Prod.mk.injEq] at hs; obtain ⟨rfl, rfl⟩ := hs
    obtain ⟨⟨a, ha⟩, hle, h2⟩ := hx
    rw [ha] at h2 ⊢
    refine ⟨rfl, _, run _, ⟨_, rfl⟩, hle, fun hv => ?_⟩
    obtain ⟨p, hp, hpa⟩ := h2 hv
    simp only [Value.pointer.injEq, Option.some.injEq] at hpa
    subst hpa
    exact ⟨p, hp, by simp [add_lit, Nat.add_assoc]⟩
  · rename_i cs o hg
    rw [hg] at hx
    simp only [Option.some.injEq, Prod.mk.injEq] at hs; obtain ⟨rfl, rfl⟩ := hs
    generalize ρ x = v at hx ⊢
    cases hx with | fp b o' off _ hcs =>
    refine ⟨rfl, _, run _, ?_⟩
    have := RepP.fp (fz := g.fz) b o' (o + f.offset) cs hcs
    rw [← Nat.add_assoc] at this
    rw [add_lit]; exact this
  · cases hs

/-- A part of a struct or an array. -/
theorem part_ok {t : TypeId} (hok : okT P t = true) {vs : List Value} {xs : List AV} (hr : RepCs g s vs xs) {o : Nat} (hl : o + P.cellsOf t ≤ xs.length) (h1 : isAggT P t = true ∨ P.cellsOf t = 1) :
    ∃ v, (part t vs.toArray o).run P w = .ok v w ∧ RepA g s v (ofCells (isAggT P t) ((xs.drop o).take (P.cellsOf t))) := by
  have hr' := (hr.drop o).take (P.cellsOf t)
  cases ha : isAggT P t with
  | true =>
    refine ⟨.agg ((vs.drop o).take (P.cellsOf t)).toArray, ?_, ofCells_agg hr'⟩
    have e : vs.toArray.extract o (o + P.cellsOf t) = ((vs.drop o).take (P.cellsOf t)).toArray := by
      simp
    simp only [part, Sem.run_bind, isAgg_run hok, Result.andThen_ok, ha, if_true, sizeOf_run hok, Sem.run_pure, e]
  | false =>
    have h1' : P.cellsOf t = 1 := by simpa [ha] using h1
    rw [h1'] at hr' hl ⊢
    have ho : o < vs.length := by rw [hr.length]; omega
    have e : (vs.drop o).take 1 = [vs[o]] := by rw [List.drop_eq_getElem_cons ho, List.take_succ_cons, List.take_zero]
    rw [e] at hr'
    refine ⟨vs[o], ?_, ofCells_one hr'⟩
    simp [part, isAgg_run hok, ha, ho]

theorem pcells_eq {agg : Bool} {cs : List PV} {r : AV} (h : pcells agg cs = some r) : r = ofCells agg (cs.map .p) ∧ (agg = true ∨ cs.length = 1) := by
  unfold pcells at h
  cases agg with
  | true => simp at h; subst h; exact ⟨by simp [ofCells, plainAll_map], .inl rfl⟩
  | false =>
    simp only at h
    split at h
    · simp at h; subst h; exact ⟨by simp [ofCells], .inr rfl⟩
    · cases h

theorem fld_run (hO : ORel g s ρ gf) {t : TypeId} {fs : Array Field} {i : Nat} {f : Field} (ht : P.underlying t = some (.struct fs)) (hf : fs[i]? = some f) (hok : okT P f.type = true) {x : Operand} {r : AV} {us : List (Nat × K)}
    (hs : sem E C d (.fld (isAggT P f.type) f.offset (P.cellsOf f.type) (cOpd x)) gf s = some (r, us)) : us = [] ∧ ∃ v, (Instr.field t (ρ x) i).run P w = .ok v w ∧ RepA g s v r := by
  have hx := hO x
  have run : ∀ (vs : List Value) v, (part f.type vs.toArray f.offset).run P w = .ok v w → (Instr.field t (.agg vs.toArray) i).run P w = .ok v w := fun vs v hv => by
    simp [Instr.field, run_underlying ht, hf, asAgg, hv]
  simp only [sem] at hs
  split at hs
  · rename_i cs hg
    rw [hg] at hx
    generalize ρ x = u at hx ⊢
    cases hx with | agg vs _ hc =>
    split at hs
    · rename_i y hy
      split at hs
      · rename_i hl
        simp only [Option.some.injEq, Prod.mk.injEq] at hs; obtain ⟨rfl, rfl⟩ := hs
        obtain ⟨rfl, h1⟩ := pcells_eq hy
        have h1' : isAggT P f.type = true ∨ P.cellsOf f.type = 1 := h1.imp id fun h => by simp at h; omega
        obtain ⟨v, hv1, hv2⟩ := part_ok (P := P) (w := w) hok (hc.cs (g := g) (s := s) rfl) (o := f.offset) (by simpa using hl) h1'
        exact ⟨rfl, v, run vs v hv1, by simpa using hv2⟩
      · cases hs
    · cases hs
  · rename_i cs hg
    rw [hg] at hx
    obtain ⟨vs, hvs, hc⟩ := hx
    rw [hvs]
    split at hs
    · rename_i hl
      simp only [Option.some.injEq, Prod.mk.injEq] at hs; obtain ⟨rfl, rfl⟩ := hs
      obtain ⟨v, hv1, hv2⟩ := part_ok (P := P) (w := w) hok hc (o := f.offset) hl.1 (by simpa using hl.2)
      exact ⟨rfl, v, run vs v hv1, hv2⟩
    · cases hs
  · cases hs

end
end Go.Proofs.YtjlebmnlphjjoaaGreatDoor.Abs
namespace Go.Proofs.YtjlebmnlphjjoaaGreatDoor.Abs

section
variable {P : Program} {w0 : World} {S : Nat → Prop} {fz0 : Fz} {g : G} {s : Nat → K} {w w' : World} {E : Env} {C : CFT} {d : Nat} {gf : Opd → AV} {ρ : Operand → Value}

theorem repEls_get {fz : Fz} {b z : Nat} : ∀ {o : Nat} {xs : List PV} {n : Nat} {x : PV}, RepEls fz b o z xs → xs[n]? = some x → RepCells fz b (o + n * z) x.cells
  | _, _, n, x, .nil b o z, h => by simp at h
  | _, _, 0, x, .cons b o z y ys h1 h2 r, h => by simp at h; subst h; simpa using h1
  | _, _, n + 1, x, .cons b o z y ys h1 h2 r, h => by
    have := repEls_get r (n := n) (by simpa using h)
    have e : o + (n + 1) * z = o + z + n * z := by rw [Nat.add_mul, Nat.one_mul]; omega
    rw [e]; exact this

theorem indexAt_slice {t e : TypeId} (ht : P.underlying t = some (.slice e)) (hok : okT P e = true) {a : Addr} {len cap : Nat} {k : IntKind} {n : Int} (h0 : 0 ≤ n) (hn : n < len) :
    (Instr.indexAt t (.slice (some a) len cap) (.int k n)).run P w = .ok (.pointer (some (a.add (n.toNat * P.cellsOf e)))) w := by
  simp [Instr.indexAt, asIntOf, run_underlying ht, h0, hn, sizeOf_run hok]

theorem indexAt_array {t e : TypeId} {len : Nat} (ht : P.underlying t = some (.array len e)) (hok : okT P e = true) {a : Addr} {k : IntKind} {n : Int} (h0 : 0 ≤ n) (hn : n < len) :
    (Instr.indexAt t (.pointer (some a)) (.int k n)).run P w = .ok (.pointer (some (a.add (n.toNat * P.cellsOf e)))) w := by
  simp [Instr.indexAt, asIntOf, run_underlying ht, Instr.sureAddr, h0, hn, sizeOf_run hok]

theorem iad_run (hO : ORel g s ρ gf) {t e : TypeId} {arr : Option Nat} (ht : (arr = none ∧ P.underlying t = some (.slice e)) ∨ ∃ len, arr = some len ∧ P.underlying t = some (.array len e)) (hok : okT P e = true) {x y : Operand} {r : AV} {us : List (Nat × K)}
    (hs : sem E C d (.iad (P.cellsOf e) arr (cOpd x) (cOpd y)) gf s = some (r, us)) : us = [] ∧ ∃ v, (Instr.indexAt t (ρ x) (ρ y)).run P w = .ok v w ∧ RepA g s v r := by
  have hx := hO x
  simp only [sem] at hs
  split at hs
  · cases hs
  · rename_i n hn
    obtain ⟨k, hk⟩ := intOf_rep (hO y) hn
    rw [hk]
    split at hs
    · rename_i h0
      split at hs
      · rename_i z' xs hg
        rw [hg] at hx
        split at hs
        · rename_i p hp
          split at hs
          · rename_i hz
            simp only [Option.some.injEq, Prod.mk.injEq] at hs; obtain ⟨rfl, rfl⟩ := hs
            rcases ht with ⟨_, ht⟩ | ⟨len, h, _⟩
            · generalize ρ x = u at hx ⊢
              have hlt : n.toNat < xs.length := (List.getElem?_eq_some_iff.1 hp).1
              cases hx with
              | lsn => simp at hlt
              | ls b o cap _ _ he hc =>
                refine ⟨rfl, _, indexAt_slice ht hok h0 (by omega), ?_⟩
                have := RepP.fp (fz := g.fz) b (o + n.toNat * z') 0 p.cells (repEls_get he hp)
                rw [add_lit, ← hz]; exact this
            · cases h
          · cases hs
        · cases hs
      · rename_i k' v o m z' hg
        rw [hg] at hx
        split at hs
        · rename_i hc
          simp only [Option.some.injEq, Prod.mk.injEq] at hs; obtain ⟨rfl, rfl⟩ := hs
          rcases ht with ⟨_, ht⟩ | ⟨len, h, _⟩
          · obtain ⟨⟨b, c, hv⟩, hle, h2⟩ := hx
            rw [hv] at h2 ⊢
            rcases h2 hc.2.2 with ⟨b', hb', _, hm0, _⟩ | ⟨p, cap, hp, hz, hv', hcn, hC, hl⟩
            · omega
            · simp only [Value.slice.injEq] at hv'
              obtain ⟨rfl, _, rfl⟩ := hv'
              refine ⟨rfl, _, indexAt_slice ht hok h0 hc.1, ⟨_, rfl⟩, hle, fun hver => ⟨p, hp, ?_⟩⟩
              rw [add_lit, hz, ← hc.2.1, Nat.add_mul]; simp [Nat.add_assoc]
          · cases h
        · cases hs
      · rename_i len k' v j o hg
        rw [hg] at hx
        split at hs
        · rename_i hc
          simp only [Option.some.injEq, Prod.mk.injEq] at hs; obtain ⟨rfl, rfl⟩ := hs
          rcases ht with ⟨h, _⟩ | ⟨len', h, ht⟩
          · cases h
          · simp only [Option.some.injEq] at h; subst h
            obtain ⟨⟨a, ha⟩, hle, h2⟩ := hx
            rw [ha] at h2 ⊢
            refine ⟨rfl, _, indexAt_array ht hok h0 hc, ⟨_, rfl⟩, hle, fun hver => ?_⟩
            obtain ⟨p, hp, hpa⟩ := h2 hver
            simp only [Value.pointer.injEq, Option.some.injEq] at hpa
            subst hpa
            exact ⟨p, hp, by simp [add_lit, Nat.add_assoc]⟩
        · cases hs
      · rename_i len cs o hg
        rw [hg] at hx
        split at hs
        · rename_i hc
          simp only [Option.some.injEq, Prod.mk.injEq] at hs; obtain ⟨rfl, rfl⟩ := hs
          rcases ht with ⟨h, _⟩ | ⟨len', h, ht⟩
          · cases h
          · simp only [Option.some.injEq] at h; subst h
            generalize ρ x = u at hx ⊢
            cases hx with | fp b o' off _ hcs =>
            refine ⟨rfl, _, indexAt_array ht hok h0 hc, ?_⟩
            have := RepP.fp (fz := g.fz) b o' (o + n.toNat * P.cellsOf e) cs hcs
            rw [← Nat.add_assoc] at this
            rw [add_lit]; exact this
        · cases hs
      · cases hs
    · cases hs

theorem idx_run (hO : ORel g s ρ gf) {t : TypeId} {arr : Option (Nat × Nat × Bool)} (ht : (arr = none ∧ P.underlying t = some .string) ∨ ∃ len e, arr = some (len, P.cellsOf e, isAggT P e) ∧ P.underlying t = some (.array len e) ∧ okT P e = true) {x y : Operand} {r : AV} {us : List (Nat × K)}
    (hs : sem E C d (.idx arr (cOpd x) (cOpd y)) gf s = some (r, us)) : us = [] ∧ ∃ v, (Instr.index t (ρ x) (ρ y)).run P w = .ok v w ∧ RepA g s v r := by
  have hx := hO x
  simp only [sem] at hs
  split at hs
  · cases hs
  · rename_i n hn
    obtain ⟨k, hk⟩ := intOf_rep (hO y) hn
    rw [hk]
    split at hs
    · rename_i h0
      split at hs
      · rename_i b hg
        rw [hg] at hx
        split at hs
        · rename_i u hu
          simp only [Option.some.injEq, Prod.mk.injEq] at hs; obtain ⟨rfl, rfl⟩ := hs
          rcases ht with ⟨_, ht⟩ | ⟨len, e, h, _⟩
          · rw [str_rep hx]
            refine ⟨rfl, .int .u8 u.toNat, ?_, RepP.int _ _⟩
            have hb : b[n.toNat]? = some u := by
              have hlt : n.toNat < b.data.size := (Array.getElem?_eq_some_iff.1 hu).1
              have hlt' : n.toNat < b.size := hlt
              have := (Array.getElem?_eq_some_iff.1 hu).2
              rw [getElem?_pos b n.toNat hlt']
              simpa [ByteArray.getElem_eq_getElem_data] using this
            simp [Instr.index, asIntOf, run_underlying ht, h0, hb]
          · cases h
        · cases hs
      · rename_i len z agg cs hg
        rw [hg] at hx
        split at hs
        · rename_i hc
          split at hs
          · rename_i q hq
            simp only [Option.some.injEq, Prod.mk.injEq] at hs; obtain ⟨rfl, rfl⟩ := hs
            rcases ht with ⟨h, _⟩ | ⟨len', e, h, ht, hok⟩
            · cases h
            · simp only [Option.some.injEq, Prod.mk.injEq] at h; obtain ⟨rfl, rfl, rfl⟩ := h
              generalize ρ x = u at hx ⊢
              cases hx with | agg vs _ hcs =>
              obtain ⟨rfl, h1⟩ := pcells_eq hq
              have h1' : isAggT P e = true ∨ P.cellsOf e = 1 := h1.imp id fun h => by simp at h; omega
              obtain ⟨v, hv1, hv2⟩ := part_ok (P := P) (w := w) hok (hcs.cs (g := g) (s := s) rfl) (o := n.toNat * P.cellsOf e) (by simpa using hc.2) h1'
              exact ⟨rfl, v, by simp [Instr.index, asIntOf, run_underlying ht, h0, hc.1, sizeOf_run hok, hv1], by simpa using hv2⟩
          · cases hs
        · cases hs
      · rename_i len z agg cs hg
        rw [hg] at hx
        split at hs
        · rename_i hc
          simp only [Option.some.injEq, Prod.mk.injEq] at hs; obtain ⟨rfl, rfl⟩ := hs
          rcases ht with ⟨h, _⟩ | ⟨len', e, h, ht, hok⟩
          · cases h
          · simp only [Option.some.injEq, Prod.mk.injEq] at h; obtain ⟨rfl, rfl, rfl⟩ := h
            obtain ⟨vs, hvs, hcs⟩ := hx
            rw [hvs]
            obtain ⟨v, hv1, hv2⟩ := part_ok (P := P) (w := w) hok hcs (o := n.toNat * P.cellsOf e) hc.2.1 hc.2.2
            exact ⟨rfl, v, by simp [Instr.index, asIntOf, run_underlying ht, h0, hc.1, sizeOf_run hok, hv1], hv2⟩
        · cases hs
      · cases hs
    · cases hs

theorem RepTs.get {fz : Fz} {vs : List Value} {xs : List PV} (h : RepTs fz vs xs) : ∀ {i : Nat} {x : PV}, xs[i]? = some x → ∃ v, vs[i]? = some v ∧ RepP fz v x := by
  intro i
  induction i generalizing vs xs with
  | zero => intro x hx; cases h with
    | nil => simp at hx
    | cons v y vs xs h r => simp at hx; subst hx; exact ⟨v, rfl, h⟩
  | succ i ih => intro x hx; cases h with
    | nil => simp at hx
    | cons v y vs xs h r => simpa using ih r (by simpa using hx)

theorem RepTV.get : ∀ {vs : List Value} {xs : List AV}, RepTV g s vs xs → ∀ {i : Nat} {x : AV}, xs[i]? = some x → ∃ v, vs[i]? = some v ∧ RepV g s v x
  | [], [], _, i, x, h => by simp at h
  | v :: vs, y :: xs, ⟨h, r⟩, 0, x, hx => by simp at hx; subst hx; exact ⟨v, rfl, h⟩
  | v :: vs, y :: xs, ⟨h, r⟩, i + 1, x, hx => by simpa using RepTV.get r (by simpa using hx)
  | [], _ :: _, h, _, _, _ => h.elim
  | _ :: _, [], h, _, _, _ => h.elim

theorem RepV.toA {v : Value} {x : AV} (h : RepV g s v x) : RepA g s v x := by
  cases x with
  | tu xs => exact h.elim
  | _ => exact h

theorem ext_run (hO : ORel g s ρ gf) {i : Nat} {x : Operand} {r : AV} {us : List (Nat × K)}
    (hs : sem E C d (.ext (cOpd x) i) gf s = some (r, us)) : us = [] ∧ ∃ v, (Instr.extract (ρ x) i).run P w = .ok v w ∧ RepA g s v r := by
  have hx := hO x
  simp only [sem] at hs
  split at hs
  · rename_i vs hg
    rw [hg] at hx
    split at hs
    · rename_i y hy
      simp only [Option.some.injEq, Prod.mk.injEq] at hs; obtain ⟨rfl, rfl⟩ := hs
      generalize ρ x = u at hx ⊢
      cases hx with | tup us _ hc =>
      obtain ⟨v, h1, h2⟩ := hc.get hy
      exact ⟨rfl, v, by simp [Instr.extract, h1], h2⟩
    · cases hs
  · rename_i vs hg
    rw [hg] at hx
    split at hs
    · rename_i y hy
      simp only [Option.some.injEq, Prod.mk.injEq] at hs; obtain ⟨rfl, rfl⟩ := hs
      obtain ⟨us, hu, hc⟩ := hx
      rw [hu]
      obtain ⟨v, h1, h2⟩ := hc.get hy
      exact ⟨rfl, v, by simp [Instr.extract, h1], h2.toA⟩
    · cases hs
  · cases hs

theorem len_run (hO : ORel g s ρ gf) {t ty : TypeId} {st : Bool} (ht : (st = true ∧ P.underlying t = some .string) ∨ (st = false ∧ ∃ e, P.underlying t = some (.slice e))) {x : Operand} {r : AV} {us : List (Nat × K)}
    (hs : sem E C d (.len st (cOpd x)) gf s = some (r, us)) : us = [] ∧ ∃ v, (Builtin.len_ #[t] ty #[ρ x]).run P w = .ok v w ∧ RepA g s v r := by
  have hx := hO x
  rcases ht with ⟨rfl, ht⟩ | ⟨rfl, e, ht⟩
  · simp only [sem] at hs
    split at hs
    · rename_i b hg
      rw [hg] at hx
      simp only [Option.some.injEq, Prod.mk.injEq] at hs; obtain ⟨rfl, rfl⟩ := hs
      rw [str_rep hx]
      exact ⟨rfl, .int .i64 b.size, by simp [Builtin.len_, run_underlying ht, goInt], RepP.int _ _⟩
    · cases hs
  · have run : ∀ b (n c : Nat), (Builtin.len_ #[t] ty #[.slice b n c]).run P w = .ok (.int .i64 n) w := fun b n c => by simp [Builtin.len_, run_underlying ht, goInt]
    simp only [sem] at hs
    split at hs
    · rename_i z xs hg
      rw [hg] at hx
      simp only [Option.some.injEq, Prod.mk.injEq] at hs; obtain ⟨rfl, rfl⟩ := hs
      generalize ρ x = u at hx ⊢
      cases hx with
      | lsn => exact ⟨rfl, _, run _ _ _, RepP.int _ _⟩
      | ls b o cap _ _ he hc => exact ⟨rfl, _, run _ _ _, RepP.int _ _⟩
    · rename_i hg
      rw [hg] at hx
      simp only [Option.some.injEq, Prod.mk.injEq] at hs; obtain ⟨rfl, rfl⟩ := hs
      generalize ρ x = u at hx ⊢
      cases hx
      exact ⟨rfl, _, run _ _ _, RepP.int _ _⟩
    · rename_i z hg
      rw [hg] at hx
      simp only [Option.some.injEq, Prod.mk.injEq] at hs; obtain ⟨rfl, rfl⟩ := hs
      obtain ⟨b, hb, _⟩ := hx
      rw [hb]
      exact ⟨rfl, _, run _ _ _, RepP.int _ _⟩
    · rename_i k v o n z hg
      rw [hg] at hx
      simp only [Option.some.injEq, Prod.mk.injEq] at hs; obtain ⟨rfl, rfl⟩ := hs
      obtain ⟨⟨b, c, hb⟩, _⟩ := hx
      rw [hb]
      exact ⟨rfl, _, run _ _ _, RepP.int _ _⟩
    · cases hs

theorem maxmin_run (hO : ORel g s ρ gf) {mx : Bool} {ts : Array TypeId} {ty : TypeId} {x y : Operand} {r : AV} {us : List (Nat × K)}
    (hs : sem E C d (.maxmin mx (cOpd x) (cOpd y)) gf s = some (r, us)) : us = [] ∧ ∃ v, (if mx then Builtin.max_ ts ty #[ρ x, ρ y] else Builtin.min_ ts ty #[ρ x, ρ y]).run P w = .ok v w ∧ RepA g s v r := by
  have hx := hO x; have hy := hO y
  simp only [sem] at hs
  split at hs
  · rename_i k a k' b hgx hgy
    rw [hgx] at hx; rw [hgy] at hy
    simp only [Option.some.injEq, Prod.mk.injEq] at hs; obtain ⟨rfl, rfl⟩ := hs
    rw [int_rep hx, int_rep hy]
    cases mx with
    | true => exact ⟨rfl, _, by simp [Builtin.max_, Builtin.max2], RepP.int _ _⟩
    | false => exact ⟨rfl, _, by simp [Builtin.min_, Builtin.min2], RepP.int _ _⟩
  · cases hs

theorem conv_run (hO : ORel g s ρ gf) {src dst : TypeId} {k k0 : IntKind} (hs0 : P.underlying src = some (.int k0)) (hd : P.underlying dst = some (.int k)) {x : Operand} {r : AV} {us : List (Nat × K)}
    (hs : sem E C d (.conv k (cOpd x)) gf s = some (r, us)) : us = [] ∧ ∃ v, (convert src dst (ρ x)).run P w = .ok v w ∧ RepA g s v r := by
  have hx := hO x
  simp only [sem] at hs
  split at hs
  · rename_i k' n hg
    rw [hg] at hx
    simp only [Option.some.injEq, Prod.mk.injEq] at hs; obtain ⟨rfl, rfl⟩ := hs
    rw [int_rep hx]
    exact ⟨rfl, .int k (k.wrap n), by simp [convert, run_underlying hs0, run_underlying hd, Conv.intToInt], RepP.int _ _⟩
  · cases hs

theorem mapArr (a : Array Operand) : (a.toList.map ρ).toArray = a.map ρ := by apply Array.ext'; simp

theorem mkfn_run (hO : ORel g s ρ gf) {f : FuncId} (hlt : f < 10000) {a c : Array Operand} {r : AV} {us : List (Nat × K)}
    (hs : sem E C d (.mkfn f (a.toList.map cOpd) (c.toList.map cOpd)) gf s = some (r, us)) : us = [] ∧ ∃ v, (Instr.makeFunc (.func f) (a.map ρ) (c.map ρ)).run P w = .ok v w ∧ RepA g s v r := by
  have plain : ∀ (l : List Operand) ps, plainAll ((l.map cOpd).map gf) = some ps → RepTs g.fz (l.map ρ) ps := by
    intro l
    induction l with
    | nil => intro ps hp; simp [plainAll] at hp; subst hp; exact .nil
    | cons o l ih =>
      intro ps hp
      simp only [List.map_cons] at hp
      have ho := hO o
      cases hgo : gf (cOpd o) with
      | p x =>
        rw [hgo] at hp ho
        simp only [plainAll] at hp
        split at hp
        · rename_i xs hxs
          simp at hp; subst hp
          exact .cons _ x _ xs ho (ih xs hxs)
        · cases hp
      | _ => rw [hgo] at hp; simp [plainAll] at hp
  simp only [sem] at hs
  split at hs
  · rename_i a' c' ha hc
    simp only [Option.some.injEq, Prod.mk.injEq] at hs; obtain ⟨rfl, rfl⟩ := hs
    refine ⟨rfl, _, rfl, ?_⟩
    have := RepP.fn f _ _ a' c' (plain _ _ ha) (plain _ _ hc)
    rw [mapArr, mapArr, Nat.mod_eq_of_lt hlt] at this
    exact this
  · split at hs
    · rename_i hok
      simp only [Option.some.injEq, Prod.mk.injEq] at hs; obtain ⟨rfl, rfl⟩ := hs
      refine ⟨rfl, _, rfl, ?_⟩
      have cells : ∀ (l : List Operand), ((l.map cOpd).map gf).all cellish = true → RepTC g s (l.map ρ) ((l.map cOpd).map gf) := by
        intro l
        induction l with
        | nil => intro _; trivial
        | cons o l ih =>
          intro h
          simp only [List.map_cons, List.all_cons, Bool.and_eq_true] at h
          refine ⟨?_, ih h.2⟩
          have ho := hO o
          cases hgo : gf (cOpd o) with
          | ag cs => rw [hgo] at h; simp [cellish] at h
          | tu cs => rw [hgo] at h; simp [cellish] at h
          | cl f a c => rw [hgo] at h; simp [cellish] at h
          | _ => rw [hgo] at ho; exact ho
      simp only [Bool.and_eq_true] at hok
      exact ⟨a.toList.map ρ, c.toList.map ρ, by rw [mapArr, mapArr, Nat.mod_eq_of_lt hlt], cells _ hok.1, cells _ hok.2⟩
    · cases hs

end
end Go.Proofs.YtjlebmnlphjjoaaGreatDoor.Abs
namespace Go.Proofs.YtjlebmnlphjjoaaGreatDoor.Abs

section
variable {P : Program} {w0 : World} {S : Nat → Prop} {fz0 : Fz} {g : G} {s : Nat → K} {w w' : World} {E : Env} {C : CFT} {d : Nat} {gf : Opd → AV} {ρ : Operand → Value}

theorem bytesOf_rep {fz : Fz} : ∀ {vs : List Value} {xs : List PV} {b : ByteArray}, RepVs fz vs xs → bytesOf xs = some b → ∃ ns : List Int, vs = ns.map (.int .u8) ∧ b = ⟨(ns.map fun n => UInt8.ofNat n.toNat).toArray⟩
  | _, [], b, h, hb => by cases h; simp [bytesOf] at hb; subst hb; exact ⟨[], rfl, rfl⟩
  | _, x :: xs, b, h, hb => by
    cases h with | cons v _ vs _ h1 h2 h3 =>
    unfold bytesOf at hb
    split at hb
    · rename_i heq; cases heq
    · rename_i n r heq
      simp only [List.cons.injEq] at heq
      obtain ⟨rfl, rfl⟩ := heq
      split at hb
      · rename_i b' hb'
        simp at hb; subst hb
        obtain ⟨ns, rfl, rfl⟩ := bytesOf_rep h3 hb'
        cases h1
        refine ⟨n :: ns, rfl, ?_⟩
        apply ByteArray.ext
        simp
      · cases hb
    · cases hb

theorem bts_run (h : Inv w0 S fz0 g s w) (hO : ORel g s ρ gf) {src dst e : TypeId} (hs0 : P.underlying src = some (.slice e)) (he : P.underlying e = some (.int .u8)) (hd : P.underlying dst = some .string) {x : Operand} {r : AV} {us : List (Nat × K)}
    (hs : sem E C d (.bts (cOpd x)) gf s = some (r, us)) : us = [] ∧ ∃ v, (convert src dst (ρ x)).run P w = .ok v w ∧ RepA g s v r := by
  have hx := hO x
  simp only [sem] at hs
  split at hs
  · rename_i z xs hg
    rw [hg] at hx
    split at hs
    · rename_i b hb
      simp only [Option.some.injEq, Prod.mk.injEq] at hs; obtain ⟨rfl, rfl⟩ := hs
      refine ⟨rfl, ?_⟩
      generalize ρ x = u at hx ⊢
      cases hx with
      | lsn =>
        simp [bytesOf] at hb; subst hb
        exact ⟨.string .empty, by simp [convert, run_underlying hs0, run_underlying hd, run_underlying he, Conv.bytesToString], RepP.str _⟩
      | ls b' o cap _ _ he' hc =>
        obtain ⟨vs, h1, h2, h3⟩ := els_flat (g := g) (s := s) h.fzok he'
        -- every element is a byte, so has one cell
        have hone : ∀ x ∈ xs, x.cells = [x] := by
          intro y hy
          have : ∀ (l : List PV) (q : ByteArray), bytesOf l = some q → ∀ y ∈ l, y.cells = [y] := by
            intro l
            induction l with
            | nil => intro q _ y hy; cases hy
            | cons a l ih =>
              intro q hq y hy
              unfold bytesOf at hq
              split at hq
              · rename_i heq; cases heq
              · rename_i n r heq
                simp only [List.cons.injEq] at heq
                obtain ⟨rfl, rfl⟩ := heq
                split at hq
                · rename_i q' hq'
                  rcases List.mem_cons.1 hy with rfl | hy
                  · rfl
                  · exact ih q' hq' y hy
                · cases hq
              · cases hq
          exact this xs b hb y hy
        have hfl : flat (xs.map AV.p) = xs.map .p := by
          clear h1 h2 h3 hb he' hc hg
          induction xs with
          | nil => rfl
          | cons y ys ih =>
            have e1 := hone y (by simp)
            have e2 := ih (fun a ha => hone a (by simp [ha]))
            simp only [flat, List.map_cons, List.flatMap_cons, cells_p, e1] at e2 ⊢
            rw [e2]; rfl
        rw [hfl] at h1
        obtain ⟨ns, rfl, rfl⟩ := bytesOf_rep h1.vs hb
        have hl : xs.length = (ns.map (Value.int .u8)).length := by rw [h1.length]; simp
        have hload : (loadCells ⟨b', o, none⟩ xs.length).run P w = .ok (ns.map (Value.int .u8)).toArray w := by rw [hl]; exact loadCells_run _ h2
        refine ⟨_, ?_, RepP.str _⟩
        have hrun := run_bytesToString (P := P) w ⟨b', o, none⟩ xs.length cap ns hload
        have key : ∀ (ns : List Int) (q : ByteArray), ns.foldl (fun r n => r.push (UInt8.ofNat n.toNat)) q = ⟨q.data ++ (ns.map fun n => UInt8.ofNat n.toNat).toArray⟩ := by
          intro ns
          induction ns with
          | nil => intro q; simp
          | cons n ns ih =>
            intro q
            rw [List.foldl_cons, ih]
            apply ByteArray.ext
            simp [ByteArray.push]
        rw [key] at hrun
        simp only [convert, Sem.run_bind, run_underlying hs0, run_underlying hd, run_underlying he, Result.andThen_ok]
        rw [hrun]
        simp
    · cases hs
  · cases hs

theorem setFold (l : List Value) : ∀ (c : Array Value) (o k : Nat), o + k + l.length ≤ c.size →
    ((l.zipIdx k).foldl (fun cs (q : Value × Nat) => cs.setIfInBounds (o + q.2) q.1) c).toList = c.toList.take (o + k) ++ l ++ c.toList.drop (o + k + l.length) := by
  induction l with
  | nil => intro c o k _; simp
  | cons v l ih =>
    intro c o k h
    rw [List.zipIdx_cons, List.foldl_cons, ih _ _ _ (by simp at h ⊢; omega)]
    simp only [Array.toList_setIfInBounds]
    have e := list_seg_step c.toList (o + k) v l (by simp at h ⊢; omega)
    have e1 : o + (k + 1) = o + k + 1 := by omega
    rw [e1]
    simpa [Nat.add_assoc, Nat.add_comm 1] using e

theorem fill_rep {place : Nat → Option (Nat × Nat)} (hO : ORel g s ρ gf) : ∀ (ps : List (Nat × Operand)) (cells : Array Value) (cs cs' : List AV) (of : Nat → Nat × Nat), RepCs g s cells.toList cs → (∀ q ∈ ps, place q.1 = some (of q.1)) →
    fillCells cs (ps.map fun q => ((of q.1).1, (of q.1).2, gf (cOpd q.2))) = some cs' → ∃ cells', Instr.fill place cells (ps.map fun q => (q.1, ρ q.2)) = some cells' ∧ RepCs g s cells'.toList cs'
  | [], cells, cs, cs', of, hr, _, hf => by simp [fillCells] at hf; subst hf; exact ⟨cells, rfl, hr⟩
  | q :: ps, cells, cs, cs', of, hr, hp, hf => by
    simp only [List.map_cons, fillCells] at hf
    split at hf
    · rename_i hc
      obtain ⟨h1, h2, h3⟩ := hc
      have hv := (hO q.2).cells h3
      have hsz : (ρ q.2).cells.size = (of q.1).2 := by rw [← h1, ← hv.length]; simp
      have hcs : cells.size = cs.length := by rw [← hr.length]; simp
      have hset := setFold (ρ q.2).cells.toList cells (of q.1).1 0 (by simp [hsz, hcs]; exact h2)
      simp only [Nat.add_zero] at hset
      have hr2 : RepCs g s (((ρ q.2).cells.toList.zipIdx 0).foldl (fun cs (q' : Value × Nat) => cs.setIfInBounds ((of q.1).1 + q'.2) q'.1) cells).toList
          (cs.take (of q.1).1 ++ (gf (cOpd q.2)).cells ++ cs.drop ((of q.1).1 + (of q.1).2)) := by
        rw [hset]
        have e : (ρ q.2).cells.toList.length = (of q.1).2 := by simp [hsz]
        rw [e]
        exact ((hr.take _).append hv).append (hr.drop _)
      obtain ⟨cells', h4, h5⟩ := fill_rep hO ps _ _ cs' of hr2 (fun q hq => hp q (by simp [hq])) hf
      refine ⟨cells', ?_, h5⟩
      simp only [List.map_cons, Instr.fill, hp q (by simp)]
      rw [if_neg (by simp [hsz, hcs]; omega)]
      rw [← h4]
      congr 1
      rw [← Array.foldl_toList]
      simp
    · cases hf

theorem build_run (h : Inv w0 S fz0 g s w) (hO : ORel g s ρ gf) {t : TypeId} {zs : List PV} (hz : zeroOf P t = some zs) {ps : Array (Nat × Operand)} {of : Nat → Nat × Nat}
    (ht : (∃ fs : Array Field, P.underlying t = some (.struct fs) ∧ (fs.toList.all (fun f => okT P f.type)) = true ∧ (ps.toList.all (fun q => (fs[q.1]?).isSome)) = true ∧ of = offs P fs) ∨
      (∃ n e, P.underlying t = some (.array n e) ∧ okT P e = true ∧ of = fun i => (i * P.cellsOf e, P.cellsOf e))) {r : AV} {us : List (Nat × K)}
    (hs : sem E C d (.build zs (ps.toList.map fun q => ((of q.1).1, (of q.1).2, cOpd q.2))) gf s = some (r, us)) : us = [] ∧ ∃ v, (Instr.build t (ps.map fun q => (q.1, ρ q.2))).run P w = .ok v w ∧ RepA g s v r := by
  obtain ⟨i, z, h1, h2, h3⟩ := zeroOf_rep (fz := g.fz) hz
  simp only [sem, List.map_map] at hs
  split at hs
  · rename_i cs hcs
    simp only [Option.some.injEq, Prod.mk.injEq] at hs; obtain ⟨rfl, rfl⟩ := hs
    refine ⟨rfl, ?_⟩
    have hcs' : fillCells (zs.map .p) (ps.toList.map fun q => ((of q.1).1, (of q.1).2, gf (cOpd q.2))) = some cs := by
      have e : ((fun q : Nat × Nat × Opd => (q.1, q.2.1, gf q.2.2)) ∘ fun q : Nat × Operand => ((of q.1).1, (of q.1).2, cOpd q.2)) = fun q => ((of q.1).1, (of q.1).2, gf (cOpd q.2)) := rfl
      rw [← e]; exact hcs
    have fin : ∀ place, (∀ q ∈ ps.toList, place q.1 = some (of q.1)) → (∀ cells, Instr.fill place z.cells (ps.toList.map fun q => (q.1, ρ q.2)) = some cells → P.built t (ps.toList.map fun q => (q.1, ρ q.2)) = some cells) →
        ∃ v, (Instr.build t (ps.map fun q => (q.1, ρ q.2))).run P w = .ok v w ∧ RepA g s v (ofCells true cs) := by
      intro place hp hb
      obtain ⟨cells, h4, h5⟩ := fill_rep hO ps.toList z.cells (zs.map .p) cs of (h3.cs rfl) hp hcs'
      refine ⟨.agg cells, run_build w t _ cells (by have := hb cells h4; simpa using this), ?_⟩
      simpa using ofCells_agg h5
    rcases ht with ⟨fs, ht, hf, hq, rfl⟩ | ⟨n, e, ht, hok, rfl⟩
    · have hm : ∀ l : List Field, (l.all (fun f => okT P f.type)) = true → l.mapM (fun f => (P.info? f.type).map fun i => (f.offset, i.size)) = some (l.map fun f => (f.offset, P.cellsOf f.type)) := by
        intro l
        induction l with
        | nil => intro _; rfl
        | cons f l ih =>
          intro hl
          simp only [List.all_cons, Bool.and_eq_true] at hl
          obtain ⟨⟨fi, hfi⟩, _⟩ := underlying_of_okT hl.1
          rw [List.mapM_cons, ih hl.2]
          simp [hfi, Program.cellsOf]
      refine fin (fun i => (fs.toList.map fun f => (f.offset, P.cellsOf f.type)).toArray[i]?) (fun q hqm => ?_) (fun cells hc => ?_)
      · have := List.all_eq_true.1 hq q hqm
        obtain ⟨f, hff⟩ := Option.isSome_iff_exists.1 this
        simp [offs, hff]
      · simp only [Program.built, h1, ht, h2, hm fs.toList hf]
        exact hc
    · obtain ⟨⟨ie, hie⟩, _⟩ := underlying_of_okT hok
      refine fin (fun i => some (i * P.cellsOf e, P.cellsOf e)) (fun q _ => rfl) (fun cells hc => ?_)
      simp only [Program.built, h1, ht, h2, hie]
      have : P.cellsOf e = ie.size := by simp [Program.cellsOf, hie]
      rw [← this]; exact hc
  · cases hs

end
end Go.Proofs.YtjlebmnlphjjoaaGreatDoor.Abs
namespace Go.Proofs.YtjlebmnlphjjoaaGreatDoor.Abs

section
variable {P : Program} {w0 : World} {S : Nat → Prop} {fz0 : Fz} {g : G} {s : Nat → K} {w w' : World} {E : Env} {C : CFT} {d : Nat} {gf : Opd → AV} {ρ : Operand → Value}

theorem fillSeq (size : Nat) : ∀ (vals : List Value) (k : Nat) (cells : Array Value), (∀ v ∈ vals, v.cells.size = size) → (k + vals.length) * size ≤ cells.size →
    ∃ cells', Instr.fill (fun i => some (i * size, size)) cells ((vals.zipIdx k).map fun q => (q.2, q.1)) = some cells' ∧
      cells'.toList = cells.toList.take (k * size) ++ vals.flatMap (fun v => v.cells.toList) ++ cells.toList.drop ((k + vals.length) * size)
  | [], k, cells, _, _ => ⟨cells, rfl, by simp⟩
  | v :: vals, k, cells, hv, hl => by
    have hsz : v.cells.size = size := hv v (by simp)
    have hmul : (k + 1 + vals.length) * size ≤ cells.size := by simpa [Nat.add_assoc, Nat.add_comm 1] using hl
    have hk : k * size + size ≤ cells.size := by
      have : (k + 1) * size ≤ (k + 1 + vals.length) * size := Nat.mul_le_mul_right _ (by omega)
      rw [Nat.add_mul, Nat.one_mul] at this; omega
    have hset := setFold v.cells.toList cells (k * size) 0 (by simp [hsz]; omega)
    simp only [Nat.add_zero] at hset
    have hlen : (((v.cells.toList.zipIdx 0).foldl (fun cs (q' : Value × Nat) => cs.setIfInBounds (k * size + q'.2) q'.1) cells)).size = cells.size := by
      have := congrArg List.length hset
      simp only [Array.length_toList, List.length_append, List.length_take, List.length_drop, hsz] at this
      rw [this]; omega
    obtain ⟨cells', h1, h2⟩ := fillSeq size vals (k + 1) _ (fun u hu => hv u (by simp [hu])) (by rw [hlen]; exact hmul)
    refine ⟨cells', ?_, ?_⟩
    · rw [List.zipIdx_cons, List.map_cons]
      simp only [Instr.fill]
      rw [if_neg (by simp [hsz]; omega), ← h1]
      congr 1
      rw [← Array.foldl_toList]
      simp
    · rw [h2, hset]
      have e1 : v.cells.toList.length = size := by simp [hsz]
      have e2 : (k + 1) * size = k * size + size := by rw [Nat.add_mul, Nat.one_mul]
      have e3 : (cells.toList.take (k * size)).length = k * size := by simp; omega
      rw [e1, e2, List.flatMap_cons]
      have t1 : (cells.toList.take (k * size) ++ v.cells.toList ++ cells.toList.drop (k * size + size)).take (k * size + size) = cells.toList.take (k * size) ++ v.cells.toList := by
        rw [List.take_append_of_le_length (by simp [e3, hsz])]
        rw [List.take_of_length_le (by simp [e3, hsz])]
      have t2 : (cells.toList.take (k * size) ++ v.cells.toList ++ cells.toList.drop (k * size + size)).drop ((k + 1 + vals.length) * size) = cells.toList.drop ((k + (vals.length + 1)) * size) := by
        have hge : k * size + size ≤ (k + 1 + vals.length) * size := by
          rw [← e2]; exact Nat.mul_le_mul_right _ (by omega)
        rw [List.drop_append]
        have e4 : (cells.toList.take (k * size) ++ v.cells.toList).length = k * size + size := by simp [e3, hsz]
        rw [List.drop_of_length_le (by rw [e4]; exact hge), e4, List.drop_drop, List.nil_append]
        congr 1
        have : k + 1 + vals.length = k + (vals.length + 1) := by omega
        rw [this] at hge ⊢; omega
      rw [t1, t2]
      simp [List.append_assoc]

theorem parts_seq : ∀ (l : List (Nat × Operand)) (k : Nat), l.map (·.1) = List.range' k l.length → l.map (fun q => (q.1, ρ q.2)) = ((l.map fun q => ρ q.2).zipIdx k).map fun q => (q.2, q.1)
  | [], _, _ => rfl
  | q :: l, k, h => by
    simp only [List.map_cons, List.length_cons, List.range'_succ, List.cons.injEq] at h
    rw [List.map_cons, List.map_cons, List.zipIdx_cons, List.map_cons, parts_seq l (k + 1) h.2, h.1]

theorem buildSlice_run {t e : TypeId} {n : Nat} {ps : Array (Nat × Operand)} (ht : P.underlying t = some (.slice e)) (hidx : ps.toList.map (·.1) = List.range n) (hok : okT P e = true) (hz : (zeroOf P e).isSome = true) (hn : n * P.cellsOf e ≤ 16777216) (h0 : P.cellsOf e ≠ 0)
    (hsz : ∀ q ∈ ps.toList, (ρ q.2).cells.size = P.cellsOf e) :
    ∃ cells : Array Value, cells.toList = ps.toList.flatMap (fun q => (ρ q.2).cells.toList) ∧
      (Instr.buildSlice t n (ps.map fun q => (q.1, ρ q.2))).run P w = .ok (.slice (some ⟨w.heap.size, 0, none⟩) n n) (w.alloc (.cells cells e)) := by
  obtain ⟨zs, hzs⟩ := Option.isSome_iff_exists.1 hz
  obtain ⟨i, z, h1, h2, _⟩ := zeroOf_rep (fz := fun _ _ => none) hzs
  have hsize : i.size = P.cellsOf e := by simp [Program.cellsOf, h1]
  have hlen : ps.toList.length = n := by have := congrArg List.length hidx; simpa using this
  have hparts : (ps.map fun q => (q.1, ρ q.2)).toList = ((ps.toList.map fun q => ρ q.2).zipIdx 0).map fun q => (q.2, q.1) := by
    rw [← parts_seq ps.toList 0 (by rw [hidx, hlen, List.range_eq_range'])]
    simp
  by_cases hn0 : n = 0
  · subst hn0
    have hps : ps = #[] := by
      apply Array.ext'; simpa using List.eq_nil_of_length_eq_zero hlen
    subst hps
    refine ⟨#[], by simp, ?_⟩
    simp [Instr.buildSlice, run_underlying ht, sizeOf_run hok, Instr.fill, newRow, Array.range_zero']
  · obtain ⟨cells, hc1, hc2⟩ := fillSeq (P.cellsOf e) (ps.toList.map fun q => ρ q.2) 0 ((Array.range (n * P.cellsOf e)).map (z.cells[· % z.cells.size]!))
      (fun v hv => by
        obtain ⟨q, hq, rfl⟩ := List.mem_map.1 hv
        exact hsz q hq) (by simp at hlen; simp [hlen])
    refine ⟨cells, ?_, ?_⟩
    · rw [hc2]
      have : ps.toList.length = n := hlen
      simp at this
      simp [this, List.flatMap_map]
    · refine run_buildSlice w t e n _ cells i z ht h1 h2 (by rw [hsize]; omega) (by rw [hsize]; exact Nat.mul_ne_zero hn0 h0) ?_
      rw [hsize, hparts]; exact hc1

/-- A new block, laid down. -/
theorem Inv.allocF (h : Inv w0 S fz0 g s w) (ha : Alike w w') (cs : Array Value) (t : TypeId) (hh : w'.heap = w.heap.push (.cells cs t (0, 0))) :
    ∃ fz', Fz.le g.fz fz' ∧ (∀ o v, cs[o]? = some v → fz' w.heap.size o = some v) ∧ Inv w0 S fz0 { g with fz := fz' } s w' ∧ Ext g s { g with fz := fz' } s := by
  have hnone : ∀ o, g.fz w.heap.size o = none := fun o => by
    cases hf : g.fz w.heap.size o with
    | none => rfl
    | some v => exact absurd (cell_lt (h.fzok _ _ _ hf)) (Nat.lt_irrefl _)
  have hold : ∀ b, b < w.heap.size → w'.heap[b]? = w.heap[b]? := fun b hb => by rw [hh, Array.getElem?_push, if_neg (by omega)]
  have hle : Fz.le g.fz (fun b o => if b = w.heap.size then cs[o]? else g.fz b o) := fun b o v hv => by
    have hb : b ≠ w.heap.size := fun e => by subst e; rw [hnone] at hv; cases hv
    simpa [hb] using hv
  have e : Ext g s { g with fz := fun b o => if b = w.heap.size then cs[o]? else g.fz b o } s := ⟨hle, fun _ => Nat.le_refl _, fun _ _ => rfl, fun _ els _ he => ⟨els, he, rfl⟩⟩
  have lt : ∀ (k : Nat) (els : List AV) (p : Pl), (s k).2 = some els → g.bk k = some p → p.b < w.heap.size := fun k els p hk hp => by
    rcases h.box k els hk with ⟨_, hy⟩ | ⟨q, hq, hx⟩
    · rw [hp] at hy; cases hy
    · rw [hp] at hq; cases hq; exact hx.lt
  refine ⟨_, hle, fun o v hv => by simpa using hv, ⟨ha.os.trans h.os, ha.tape.trans h.tape, ha.output.trans h.output, by rw [hh]; simp; have := h.size; omega, fun b hb hs => ?_, Fz.le_trans h.fzle hle, fun b o v hv => ?_, fun b o v hv => ?_, fun k els hk => ?_, fun k els p hk hp => ?_, h.apart⟩, e⟩
  · rw [hold b (Nat.lt_of_lt_of_le hb h.size)]; exact h.old b hb hs
  · have hv' : (if b = w.heap.size then cs[o]? else g.fz b o) = some v := hv
    split at hv'
    · rename_i hb; subst hb
      simp [World.cell?, hh, hv']
    · have hc := h.fzok b o v hv'
      rw [cell_same (hold b (cell_lt hc))]; exact hc
  · have hv' : (if b = w.heap.size then cs[o]? else g.fz b o) = some v := hv
    split at hv'
    · rename_i hb; subst hb; exact .inr (.inl h.size)
    · exact h.fznew b o v hv'
  · rcases h.box k els hk with hx | ⟨p, hp, hx⟩
    · exact .inl hx
    · exact .inr ⟨p, hp, hx.mono e (hold _ hx.lt)⟩
  · obtain ⟨h1, h2⟩ := h.own k els p hk hp
    refine ⟨h1, fun o => ?_⟩
    have := lt k els p hk hp
    show (if p.b = w.heap.size then cs[o]? else g.fz p.b o) = none
    rw [if_neg (by omega)]; exact h2 o

theorem vs_flat : ∀ {vs : List Value} {xs : List AV}, RepTV g s vs xs → (∀ x ∈ xs, vok x = true) → RepCs g s (vs.flatMap fun v => v.cells.toList) (flat xs)
  | [], [], _, _ => trivial
  | v :: vs, x :: xs, ⟨h, r⟩, hv => by
    simp only [List.flatMap_cons, flat]
    exact (h.toA.cells (hv x (by simp))).append (vs_flat r fun x hx => hv x (by simp [hx]))
  | [], _ :: _, h, _ => h.elim
  | _ :: _, [], h, _ => h.elim

theorem tv_of (hO : ORel g s ρ gf) : ∀ (l : List Operand), ((l.map cOpd).map gf).all (fun x => match x with | .tu _ => false | _ => true) = true → RepTV g s (l.map ρ) ((l.map cOpd).map gf)
  | [], _ => trivial
  | o :: l, h => by
    simp only [List.map_cons, List.all_cons, Bool.and_eq_true] at h
    refine ⟨?_, tv_of hO l h.2⟩
    have ho := hO o
    cases hgo : gf (cOpd o) with
    | tu cs => rw [hgo] at h; simp at h
    | _ => rw [hgo] at ho; exact ho

theorem repP_cells {fz : Fz} {v : Value} {p : PV} (h : RepP fz v p) (hv : vok (.p p) = true) : RepVs fz v.cells.toList p.cells := by
  have := RepA.cells (g := { fz := fz, bk := fun _ => none }) (s := fun _ => (0, none)) (v := v) (x := .p p) h hv
  rw [cells_p] at this
  exact this.vs

theorem flatMap_arr (l : List Operand) : (l.map ρ).flatMap (fun v => v.cells.toList) = l.flatMap fun o => (ρ o).cells.toList := by
  rw [List.flatMap_map]

theorem flat_ps : ∀ (qs : List PV), flat (qs.map .p) = (qs.flatMap PV.cells).map .p
  | [] => rfl
  | p :: qs => by
    have := flat_ps qs
    simp only [flat] at this ⊢
    rw [List.map_cons, List.flatMap_cons, List.flatMap_cons, List.map_append, this, cells_p]

theorem mkls_run (h : Inv w0 S fz0 g s w) (hO : ORel g s ρ gf) {t e : TypeId} {n : Nat} {ps : Array (Nat × Operand)} {mu : Bool} (ht : P.underlying t = some (.slice e)) (hidx : ps.toList.map (·.1) = List.range n) (hok : okT P e = true) (hz : (zeroOf P e).isSome = true) (hn : n * P.cellsOf e ≤ 16777216) (h0 : P.cellsOf e ≠ 0)
    {r : AV} {us : List (Nat × K)} (hs : sem E C d (.mkls (P.cellsOf e) (ps.toList.map fun q => cOpd q.2) mu) gf s = some (r, us)) :
    ∃ v w' g', (Instr.buildSlice t n (ps.map fun q => (q.1, ρ q.2))).run P w = .ok v w' ∧ RepA g' (updAll s us) v r ∧ Inv w0 S fz0 g' (updAll s us) w' ∧ Ext g s g' (updAll s us) := by
  have hlen : ps.toList.length = n := by have := congrArg List.length hidx; simpa using this
  have hm : (ps.toList.map fun q => cOpd q.2) = (ps.toList.map (·.2)).map cOpd := by simp
  rw [hm] at hs
  generalize hl : ps.toList.map (·.2) = l at hs
  have hll : l.length = n := by rw [← hl]; simpa using hlen
  have hcells : ps.toList.flatMap (fun q => (ρ q.2).cells.toList) = (l.map ρ).flatMap fun v => v.cells.toList := by
    rw [← hl, List.map_map, List.flatMap_map]; rfl
  have hmem : ∀ q ∈ ps.toList, ρ q.2 ∈ l.map ρ := fun q hq => by rw [← hl]; exact List.mem_map.2 ⟨q.2, List.mem_map.2 ⟨q, hq, rfl⟩, rfl⟩
  simp only [sem] at hs
  cases mu with
  | true =>
    simp only [if_true] at hs
    split at hs
    · rename_i hall
      simp only [Option.some.injEq, Prod.mk.injEq] at hs; obtain ⟨rfl, rfl⟩ := hs
      have hall' : ∀ x ∈ (l.map cOpd).map gf, vok x = true ∧ x.cells.length = P.cellsOf e := fun x hx => by
        have := List.all_eq_true.1 hall x hx
        simpa using this
      have htv := tv_of hO l (List.all_eq_true.2 fun x hx => by
        have := (hall' x hx).1
        cases x <;> simp_all [vok])
      have hflat := vs_flat htv fun x hx => (hall' x hx).1
      have hvs : ∀ v ∈ l.map ρ, v.cells.size = P.cellsOf e := fun v hv => by
        obtain ⟨o, ho, rfl⟩ := List.mem_map.1 hv
        have hx := hall' (gf (cOpd o)) (List.mem_map.2 ⟨cOpd o, List.mem_map.2 ⟨o, ho, rfl⟩, rfl⟩)
        have := ((hO o).cells hx.1).length
        simp at this; omega
      obtain ⟨cells, hc1, hrun⟩ := buildSlice_run (P := P) (w := w) (ρ := ρ) ht hidx hok hz hn h0 fun q hq => hvs _ (hmem q hq)
      have hflen : (flat ((l.map cOpd).map gf)).length = n * P.cellsOf e := by rw [flat_length fun x hx => (hall' x hx).2]; simp [hll]
      have hcs : cells.size = n * P.cellsOf e := by
        have := congrArg List.length hc1
        rw [hcells, hflat.length, hflen] at this; simpa using this
      have hb := newBox h (w' := w.alloc (.cells cells e)) ⟨rfl, rfl, rfl, Nat.le_refl _⟩ d ((l.map cOpd).map gf) cells e (P.cellsOf e) rfl (fun x hx => (hall' x hx).2) (fun x hx => (hall' x hx).1) _ hflat
        (fun j v hv => by rw [← hcells, ← hc1] at hv; simpa using hv) (by simp [hcs, hll])
      refine ⟨_, _, _, hrun, ?_, hb.1, hb.2.1⟩
      have := hb.2.2.2 n (by simp [hll]) (by rw [hcs]; exact Nat.le_refl _)
      simp only [List.length_map, hll] at this ⊢
      exact this
    · cases hs
  | false =>
    simp only [Bool.false_eq_true, if_false] at hs
    split at hs
    · rename_i hnil
      simp only [Option.some.injEq, Prod.mk.injEq] at hs; obtain ⟨rfl, rfl⟩ := hs
      have hl0 : l = [] := by simpa using hnil
      subst hl0
      have hn0 : n = 0 := by simpa using hll.symm
      subst hn0
      obtain ⟨cells, hc1, hrun⟩ := buildSlice_run (P := P) (w := w) (ρ := ρ) ht hidx hok hz hn h0 fun q hq => by
        have := hmem q hq; simp at this
      obtain ⟨fz', _, _, hI, hE⟩ := h.allocF (w' := w.alloc (.cells cells e)) ⟨rfl, rfl, rfl, Nat.le_refl _⟩ cells e rfl
      exact ⟨_, _, _, hrun, ⟨_, rfl, fun a ha => by cases ha; rfl⟩, hI, hE⟩
    · split at hs
      · rename_i qs hqs
        split at hs
        · rename_i hall
          simp only [Option.some.injEq, Prod.mk.injEq] at hs; obtain ⟨rfl, rfl⟩ := hs
          have hall2 : ∀ p ∈ qs, p.cells.length = P.cellsOf e ∧ vok (.p p) = true := fun p hp => by simpa using List.all_eq_true.1 hall p hp
          have hall' : ∀ p ∈ qs, p.cells.length = P.cellsOf e := fun p hp => (hall2 p hp).1
          have hvok : ∀ p ∈ qs, vok (.p p) = true := fun p hp => (hall2 p hp).2
          have hnt : ∀ (xs : List AV) (sh : List Shape) (ys : List PV), freezes s sh xs = some ys → xs.all (fun x => match x with | .tu _ => false | _ => true) = true := by
            intro xs
            induction xs with
            | nil => intro _ _ _; rfl
            | cons x xs ih =>
              intro sh ys hy
              simp only [freezes] at hy
              split at hy
              · rename_i y h1
                split at hy
                · rename_i zs h2
                  rw [List.all_cons, ih _ _ h2]
                  cases x <;> simp_all [frz, freezeC]
                · cases hy
              · cases hy
          have htv := tv_of hO l (hnt _ _ _ hqs)
          obtain ⟨hI1, hE1⟩ := h.kill (((l.map cOpd).map gf).flatMap keysV)
          have hrep := freezes_rep h (fzOf_le h (((l.map cOpd).map gf).flatMap keysV)) [] (fun k hk => fzOf_frozen _ k hk) htv hqs
          have hcs2 : ∀ (vs : List Value) (qs : List PV), RepTs (fzOf g s w (((l.map cOpd).map gf).flatMap keysV)) vs qs → (∀ p ∈ qs, vok (.p p) = true) → RepVs (fzOf g s w (((l.map cOpd).map gf).flatMap keysV)) (vs.flatMap fun v => v.cells.toList) (qs.flatMap PV.cells) := by
            intro vs qs hr
            induction qs generalizing vs with
            | nil => intro _; cases hr; exact .nil
            | cons p qs ih =>
              intro hv
              cases hr with | cons v _ vs _ h1 h2 =>
              have hc := repP_cells h1 (hv p (by simp))
              have ht := ih vs h2 (fun q hq => hv q (by simp [hq]))
              simp only [List.flatMap_cons]
              generalize v.cells.toList = a at hc
              generalize p.cells = b at hc
              clear h1 hv
              induction b generalizing a with
              | nil => cases hc; exact ht
              | cons y b ihb => cases hc with | cons u _ a _ q1 q2 q3 => exact .cons u y _ _ q1 q2 (ihb a q3)
          have hcv := hcs2 _ _ hrep hvok
          have hvs : ∀ v ∈ l.map ρ, v.cells.size = P.cellsOf e := by
            have : ∀ (vs : List Value) (qs : List PV), RepTs (fzOf g s w (((l.map cOpd).map gf).flatMap keysV)) vs qs → (∀ p ∈ qs, vok (.p p) = true) → (∀ p ∈ qs, p.cells.length = P.cellsOf e) → ∀ v ∈ vs, v.cells.size = P.cellsOf e := by
              intro vs qs hr
              induction qs generalizing vs with
              | nil => intro _ _ v hv; cases hr; cases hv
              | cons p qs ih =>
                intro h1 h2 v hv
                cases hr with | cons u _ us _ q1 q2 =>
                rcases List.mem_cons.1 hv with rfl | hv
                · have := (repP_cells q1 (h1 p (by simp))).length
                  have := h2 p (by simp)
                  simp_all
                · exact ih us q2 (fun q hq => h1 q (by simp [hq])) (fun q hq => h2 q (by simp [hq])) v hv
            exact this _ _ hrep hvok hall'
          obtain ⟨cells, hc1, hrun⟩ := buildSlice_run (P := P) (w := w) (ρ := ρ) ht hidx hok hz hn h0 fun q hq => hvs _ (hmem q hq)
          obtain ⟨fz', hle, hfz, hI, hE⟩ := hI1.allocF (w' := w.alloc (.cells cells e)) ⟨rfl, rfl, rfl, Nat.le_refl _⟩ cells e rfl
          refine ⟨_, _, _, hrun, ?_, hI, hE1.trans hE⟩
          have hql : qs.length = n := by
            have : ∀ (vs : List Value) (qs : List PV), RepTs (fzOf g s w (((l.map cOpd).map gf).flatMap keysV)) vs qs → vs.length = qs.length := by
              intro vs qs hr
              induction qs generalizing vs with
              | nil => cases hr; rfl
              | cons p qs ih => cases hr with | cons u _ us _ q1 q2 => simp [ih us q2]
            rw [← this _ _ hrep]; simp [hll]
          have hels : RepEls fz' w.heap.size 0 (P.cellsOf e) qs := by
            refine repEls_of qs 0 fun i x hx => ⟨hall' x (List.mem_of_getElem? hx), repCells_of _ fun j y hy => ?_⟩
            have hfg := flat_get (els := qs.map .p) (z := P.cellsOf e) (fun el hel => by
              obtain ⟨p, hp, rfl⟩ := List.mem_map.1 hel
              rw [cells_p]; simpa using hall' p hp) (i := i) (el := .p x) (by simp [hx]) (j := j) (x := .p y) (by rw [cells_p]; simp [hy])
            have hfl := flat_ps qs
            rw [hfl] at hfg
            obtain ⟨v, hv1, hv2, hv3⟩ := (hcv.cs (g := { g with fz := fzOf g s w (((l.map cOpd).map gf).flatMap keysV) }) (s := s) rfl).get hfg
            rw [← hcells, ← hc1] at hv1
            exact ⟨v, hfz _ v (by simpa using hv1), hv2, RepP.mono hle hv3⟩
          have := RepP.ls (fz := fz') w.heap.size 0 n (P.cellsOf e) qs hels (by omega)
          rw [hql] at this
          exact this
        · cases hs
      · cases hs

end
end Go.Proofs.YtjlebmnlphjjoaaGreatDoor.Abs
namespace Go.Proofs.YtjlebmnlphjjoaaGreatDoor.Abs

section
variable {P : Program} {w0 : World} {S : Nat → Prop} {fz0 : Fz} {g : G} {s : Nat → K} {w w' : World} {E : Env} {C : CFT} {d : Nat} {gf : Opd → AV} {ρ : Operand → Value}

theorem upd_id {k : Nat} {els : List AV} (h : (s k).2 = some els) : upd s k ((s k).1, some els) = s := by
  funext j
  by_cases hj : j = k
  · subst hj; rw [upd_same, ← h]
  · rw [upd_ne _ _ hj]

theorem zero_get {zv : Array Value} {n i j : Nat} (hi : i < n) (hj : j < zv.size) : ((Builtin.zeroCells zv n).toList)[i * zv.size + j]? = zv[j]? := by
  have hlt : i * zv.size + j < n * zv.size := by
    have : (i + 1) * zv.size ≤ n * zv.size := Nat.mul_le_mul_right _ hi
    rw [Nat.add_mul, Nat.one_mul] at this; omega
  have hm : (i * zv.size + j) % zv.size = j := by rw [Nat.mul_comm, Nat.mul_add_mod]; exact Nat.mod_eq_of_lt hj
  have hb : some zv[j]! = zv[j]? := by rw [getElem!_pos zv j hj, Array.getElem?_eq_getElem hj]
  simp [Builtin.zeroCells, hlt, hm, hb]

theorem clear_run (h : Inv w0 S fz0 g s w) (hO : ORel g s ρ gf) {t e ty : TypeId} {el : PV} (ht : P.underlying t = some (.slice e)) (hok : okT P e = true) (hz : zeroEl P e = some el) {x : Operand} {r : AV} {us : List (Nat × K)}
    (hs : sem E C d (.clear el (cOpd x)) gf s = some (r, us)) :
    ∃ w', (Builtin.clear_ #[t] ty #[ρ x]).run P w = .ok (.tuple #[]) w' ∧ r = .un ∧ Inv w0 S fz0 g (updAll s us) w' ∧ Ext g s g (updAll s us) := by
  have hx := hO x
  obtain ⟨i, zv, h1, h2, h3, h4, h5⟩ := zeroEl_rep (g := g) (s := s) hz
  simp only [sem] at hs
  split at hs
  · rename_i k ver o n z hg
    rw [hg] at hx
    obtain ⟨⟨b, c, hbc⟩, _, hms⟩ := hx
    simp only [lk] at hs
    split at hs
    · rename_i els hels
      split at hels
      · rename_i hver
        split at hs
        · rename_i hc
          obtain ⟨ho, hzz⟩ := hc
          simp only [Option.some.injEq, Prod.mk.injEq] at hs; obtain ⟨rfl, rfl⟩ := hs
          by_cases hn : n = 0
          · subst hn
            rw [hbc]
            refine ⟨w, by cases b <;> simp [Builtin.clear_, run_underlying ht], rfl, ?_⟩
            have : updAll s [(k, ((s k).1, some (els.take o ++ List.replicate 0 (AV.p el) ++ els.drop (o + 0))))] = s := by
              simp only [updAll, List.replicate_zero, List.append_nil, Nat.add_zero, List.take_append_drop]
              exact upd_id hels
            rw [this]
            exact ⟨h, Ext.refl _ _⟩
          · rcases hms hver with ⟨b, _, _, h0, _⟩ | ⟨p, cap, hp, hpz, hv, hcap, hC, _⟩
            · exact absurd h0 hn
            · rw [hv]
              have hzs : zv.cells.size = z := by rw [h5, hzz]; exact (by rw [← h5, ← h3.length]; simp)
              have hcl : (AV.p el).cells.length = p.z := by rw [hpz, hzz]
              have hsz : p.base + els.length * p.z ≤ p.c := by
                rcases h.box k els hels with ⟨hx, hy⟩ | ⟨p', hp', c, t', hb, hc', hsz0, hels0⟩
                · rw [hp] at hy; cases hy
                · rw [hp] at hp'; cases hp'; exact hsz0
              have hvl : (Builtin.zeroCells zv.cells n).toList.length = n * z := by simp [size_zeroCells, hzs]
              have hle : (o + n) * z ≤ els.length * z := Nat.mul_le_mul_right _ ho
              rw [Nat.add_mul] at hle
              have hl' : (els.take o ++ List.replicate n (AV.p el) ++ els.drop (o + n)).length = els.length := by simp; omega
              obtain ⟨w', hrun, hI, hE⟩ := h.seg (P := P) (els' := els.take o ++ List.replicate n (AV.p el) ++ els.drop (o + n)) (ver := (s k).1) hels hp (.inl ⟨rfl, hl'⟩) (p.base + o * z) (Builtin.zeroCells zv.cells n).toList
                (fun v hv => by
                  have hv' : v ∈ zv.cells.toList := by
                    simp only [Builtin.zeroCells, Array.toList_map, List.mem_map] at hv
                    obtain ⟨a, ha, rfl⟩ := hv
                    have hpos : 0 < zv.cells.size := by
                      rcases Nat.eq_zero_or_pos zv.cells.size with h0 | h0
                      · simp [h0] at ha
                      · exact h0
                    have := Nat.mod_lt a hpos
                    rw [getElem!_pos zv.cells _ this]
                    simp
                  obtain ⟨j, hj⟩ := List.getElem?_of_mem hv'
                  have hj' : j < (AV.p el).cells.length := by rw [← h3.length]; exact (List.getElem?_eq_some_iff.1 hj).1
                  obtain ⟨v', q1, q2, _⟩ := h3.get (List.getElem?_eq_getElem hj')
                  rw [hj] at q1; simp at q1; subst q1; exact q2)
                (by rw [hvl]; rw [hpz] at hsz; omega) (by rw [hl']; exact hsz)
                (fun i' el2 hi' => by
                  by_cases hin : o ≤ i' ∧ i' < o + n
                  · have he : el2 = .p el := by
                      rw [List.append_assoc, List.getElem?_append_right (by simp; omega), List.getElem?_append_left (by simp; omega)] at hi'
                      exact (List.mem_replicate.1 (List.mem_of_getElem? hi')).2
                    subst he
                    refine ⟨h4, hcl, fun j x hx => .inl ?_⟩
                    have hj : j < z := by rw [← hpz, ← hcl]; exact (List.getElem?_eq_some_iff.1 hx).1
                    have hmul : i' * p.z = o * z + (i' - o) * z := by rw [hpz, ← Nat.add_mul]; congr 1; omega
                    have hpos : p.base + i' * p.z + j - (p.base + o * z) = (i' - o) * z + j := by omega
                    refine ⟨by omega, ?_⟩
                    obtain ⟨v, q1, q2, q3⟩ := h3.get hx
                    refine ⟨v, ?_, q3⟩
                    rw [hpos, ← hzs, zero_get (by omega) (by omega)]
                    simpa using q1
                  · have hi2 : els[i']? = some el2 := by
                      by_cases hlt : i' < o
                      · rw [List.append_assoc, List.getElem?_append_left (by simp; omega), List.getElem?_take, if_pos hlt] at hi'
                        exact hi'
                      · rw [List.getElem?_append_right (by simp; omega)] at hi'
                        rw [List.getElem?_drop] at hi'
                        have : o + n + (i' - (els.take o ++ List.replicate n (AV.p el)).length) = i' := by simp; omega
                        rwa [this] at hi'
                    have hz' := boxCellsLen h hels hp hi2
                    have hvk : vok el2 = true := by
                      rcases h.box k els hels with ⟨hx, hy⟩ | ⟨p', hp', c, t', hb, hc', hsz0, hels0⟩
                      · rw [hp] at hy; cases hy
                      · exact (hels0 i' el2 hi2).1
                    refine ⟨hvk, hz', fun j x hx => .inr ⟨?_, el2, hi2, hx⟩⟩
                    have hj : j < p.z := by rw [← hz']; exact (List.getElem?_eq_some_iff.1 hx).1
                    rw [hvl, hpz] at *
                    by_cases hlt : i' < o
                    · left
                      have : (i' + 1) * z ≤ o * z := Nat.mul_le_mul_right _ hlt
                      rw [Nat.add_mul, Nat.one_mul] at this
                      omega
                    · right
                      have : (o + n) * z ≤ i' * z := Nat.mul_le_mul_right _ (by omega)
                      rw [Nat.add_mul] at this
                      omega)
              refine ⟨w', ?_, rfl, by simpa [updAll] using hI, by simpa [updAll] using hE⟩
              have hn' : ∃ m, n = m + 1 := ⟨n - 1, by omega⟩
              obtain ⟨m, rfl⟩ := hn'
              simp [Builtin.clear_, run_underlying ht, zeroValue, typeInfo, h1, h2, hrun]
        · cases hs
      · cases hels
    · cases hs
  · rename_i z hg
    rw [hg] at hx
    simp only [Option.some.injEq, Prod.mk.injEq] at hs; obtain ⟨rfl, rfl⟩ := hs
    obtain ⟨b, hb, _⟩ := hx
    rw [hb]
    exact ⟨w, by cases b <;> simp [Builtin.clear_, run_underlying ht], rfl, h, Ext.refl _ _⟩
  · cases hs

end
end Go.Proofs.YtjlebmnlphjjoaaGreatDoor.Abs
namespace Go.Proofs.YtjlebmnlphjjoaaGreatDoor.Abs

section
variable {P : Program} {w0 : World} {S : Nat → Prop} {fz0 : Fz} {g : G} {s : Nat → K} {w w' : World} {E : Env} {C : CFT} {d : Nat} {gf : Opd → AV} {ρ : Operand → Value}

theorem Good.same (h : Inv w0 S fz0 g s w) {us : List (Nat × K)} {m : Sem Value} {x : AV} (hh : us = [] ∧ ∃ v, m.run P w = .ok v w ∧ RepA g s v x) :
    Good w0 S fz0 g s us x ((do let y ← m; Pure.pure (Next.value y) : Sem Next).run P w) := by
  obtain ⟨rfl, v, h1, h2⟩ := hh
  exact Good.val h h1 h2

theorem Good.turn {us : List (Nat × K)} {m : Sem Value} {x : AV} (hh : ∃ v w' g', m.run P w = .ok v w' ∧ RepA g' (updAll s us) v x ∧ Inv w0 S fz0 g' (updAll s us) w' ∧ Ext g s g' (updAll s us)) :
    Good w0 S fz0 g s us x ((do let y ← m; Pure.pure (Next.value y) : Sem Next).run P w) := by
  obtain ⟨v, w', g', h1, h2, h3, h4⟩ := hh
  exact Good.new h1 h2 h3 h4

theorem bind_und {t0 : Option TypeId} {u : TypeDesc} (h : t0.bind P.underlying = some u) : ∃ t, t0 = some t ∧ P.underlying t = some u := by
  cases t0 with
  | none => simp at h
  | some t => exact ⟨t, rfl, by simpa using h⟩

theorem len_types {ts : Array TypeId} {t ty : TypeId} {args : Array Value} (h : ts[0]? = some t) : Builtin.len_ ts ty args = Builtin.len_ #[t] ty args := by
  simp [Builtin.len_, h]
theorem clear_types {ts : Array TypeId} {t ty : TypeId} {args : Array Value} (h : ts[0]? = some t) : Builtin.clear_ ts ty args = Builtin.clear_ #[t] ty args := by
  simp [Builtin.clear_, h]
theorem append_types {ts : Array TypeId} {t ty : TypeId} {args : Array Value} (h : ts[0]? = some t) (h' : ts[1]? = some t) : Builtin.append_ ts ty args = Builtin.append_ #[t, t] ty args := by
  simp [Builtin.append_, h, h']

theorem args_one {a : Array Operand} {x : Operand} (h : a.toList = [x]) : a.map ρ = #[ρ x] := by
  apply Array.ext'; simp [h]
theorem args_two {a : Array Operand} {x y : Operand} (h : a.toList = [x, y]) : a.map ρ = #[ρ x, ρ y] := by
  apply Array.ext'; simp [h]

theorem builtin_good (h : Inv w0 S fz0 g s w) (hO : ORel g s ρ gf) (a : Ann) (o : Oper) {c : Call} {b : Builtin} (ho : o.op = .call c) (hcl : c.callee = .builtin b) {x : AV} {us : List (Nat × K)}
    (hs : sem E C d (cOp P a o) gf s = some (x, us)) : Good w0 S fz0 g s us x ((execOp ρ o).run P w) := by
  cases b with
  | len =>
    simp only [cOp, ho, hcl] at hs
    simp only [execOp, ho, resolve, hcl, pure_bind, invoke, builtin]
    split at hs
    · rename_i y e ha ht
      obtain ⟨t, h0, ht⟩ := bind_und ht
      rw [args_one ha, len_types h0]
      exact Good.same h (len_run hO (.inr ⟨rfl, e, ht⟩) hs)
    · rename_i y ha ht
      obtain ⟨t, h0, ht⟩ := bind_und ht
      rw [args_one ha, len_types h0]
      exact Good.same h (len_run hO (.inl ⟨rfl, ht⟩) hs)
    · cases hs
  | max =>
    simp only [cOp, ho, hcl] at hs
    simp only [execOp, ho, resolve, hcl, pure_bind, invoke, builtin]
    split at hs
    · rename_i y z ha
      rw [args_two ha]
      exact Good.same h (by have := maxmin_run (P := P) (w := w) (ts := c.argTypes) (ty := o.type) hO hs; simpa using this)
    · cases hs
  | min =>
    simp only [cOp, ho, hcl] at hs
    simp only [execOp, ho, resolve, hcl, pure_bind, invoke, builtin]
    split at hs
    · rename_i y z ha
      rw [args_two ha]
      exact Good.same h (by have := maxmin_run (P := P) (w := w) (ts := c.argTypes) (ty := o.type) hO hs; simpa using this)
    · cases hs
  | append =>
    simp only [cOp, ho, hcl] at hs
    simp only [execOp, ho, resolve, hcl, pure_bind, invoke, builtin]
    split at hs
    · rename_i y z e ha ht
      obtain ⟨t, h0, ht⟩ := bind_und ht
      split at hs
      · rename_i hall
        simp only [Bool.and_eq_true, beq_iff_eq] at hall
        obtain ⟨⟨⟨h1, h2⟩, h3⟩, h4⟩ := hall
        obtain ⟨el, hel⟩ := Option.isSome_iff_exists.1 h3
        rw [args_two ha, append_types h0 (h4 ▸ h0)]
        exact Good.turn (app_run h ht h1 hel (hO y) (hO z) hs)
      · cases hs
    · cases hs
  | clear =>
    simp only [cOp, ho, hcl] at hs
    simp only [execOp, ho, resolve, hcl, pure_bind, invoke, builtin]
    split at hs
    · rename_i y e ha ht
      obtain ⟨t, h0, ht⟩ := bind_und ht
      split at hs
      · rename_i hok
        split at hs
        · rename_i z hz
          rw [args_one ha, clear_types h0]
          obtain ⟨w', h1, rfl, h2, h3⟩ := clear_run (P := P) (ty := o.type) h hO ht hok hz hs
          exact Good.new h1 trivial h2 h3
        · cases hs
      · cases hs
    · cases hs
  | _ => simp [cOp, ho, hcl, sem] at hs

/-- A slice in a variable is laid down. -/
theorem mvl_good {x' : AV} (h : Inv w0 S fz0 g s w) {r : Result Next} {y : Value} {x : AV} {k j : Nat} {us : List (Nat × K)} (hr : r = .ok (.value y) w) (hv : RepA g s y x)
    (hs : (match (s k).2 with
    | some [.ms j' v o n z] => if j' = j ∧ j ≠ k then match freezeC s (.ms j' v o n z) with
        | some p => some (x, [(j, ((s j).1 + 1, none)), (k, ((s k).1, some [AV.p p]))])
        | none => none
      else none
    | _ => none) = some (x', us)) : Good w0 S fz0 g s us x' r := by
  split at hs
  · rename_i j' v o n z hk
    split at hs
    · rename_i hjk
      obtain ⟨rfl, hne⟩ := hjk
      split at hs
      · rename_i p hp
        simp only [Option.some.injEq, Prod.mk.injEq] at hs; obtain ⟨rfl, rfl⟩ := hs
        obtain ⟨I1, E1⟩ := h.kill [j']
        have hu : updAll s (kill s [j']) = upd s j' ((s j').1 + 1, none) := rfl
        rw [hu] at I1 E1
        have hk1 : (upd s j' ((s j').1 + 1, none) k).2 = some [.ms j' v o n z] := by rw [upd_ne _ _ hne.symm]; exact hk
        rcases h.box k _ hk with ⟨hx, _⟩ | ⟨q, hq, c, t, b1, b2, b3, b4⟩
        · cases hx
        · obtain ⟨a1, a2, a3⟩ := b4 0 _ rfl
          obtain ⟨u, u1, u2, u3⟩ := a3 0 (.ms j' v o n z) rfl
          have hrep : RepP (fzOf g s w [j']) u p := freezeC_rep h (fzOf_le h [j']) (fun i hi => by
            have : i = j' := by simpa [keysC] using hi
            subst this
            exact fzOf_frozen _ i (by simp)) u3 hp
          have hz : q.z = 1 := a2.symm
          have hpc : ∃ s' xs, p = .ls s' xs := by
            simp only [freezeC] at hp
            split at hp
            · split at hp
              · simp only [Option.some.injEq] at hp; exact ⟨_, _, hp.symm⟩
              · cases hp
            · cases hp
          obtain ⟨s', xs, rfl⟩ := hpc
          obtain ⟨I2, E2⟩ := I1.write (w' := w) ⟨rfl, rfl, rfl, Nat.le_refl _⟩ k [.ms j' v o n z] [.p (.ls s' xs)] q (s k).1 c t hk1 hq (.inl ⟨by rw [upd_ne _ _ hne.symm], rfl⟩) b1 (fun _ _ => rfl) rfl b2 b3 (fun i el hi => by
            cases i with
            | zero =>
              simp only [List.getElem?_cons_zero, Option.some.injEq] at hi; subst hi
              refine ⟨rfl, hz.symm, fun jj y hy => ?_⟩
              cases jj with
              | zero =>
                have hy' : y = .p (.ls s' xs) := by simpa [AV.cells] using hy.symm
                subst hy'
                exact ⟨u, u1, u2, hrep⟩
              | succ jj => simp [AV.cells] at hy
            | succ i => simp at hi)
          exact ⟨_, w, _, y, hr, .inl rfl, hv.mono (E1.trans E2), I2, E1.trans E2⟩
      · cases hs
    · cases hs
  · cases hs

/-- Every operation but a call of a function. -/
theorem op_good (h : Inv w0 S fz0 g s w) (hO : ORel g s ρ gf) (a : Ann) (hfl : FlOk P a.flats) (o : Oper) (hc : ∀ c f, o.op = .call c → c.callee ≠ .value f) {x : AV} {us : List (Nat × K)}
    (hs : sem E C d (cOp P a o) gf s = some (x, us)) : Good w0 S fz0 g s us x ((execOp ρ o).run P w) := by
  cases ho : o.op with
  | move y =>
    simp only [cOp, ho] at hs
    split at hs
    · exact mvl_good h (by simp [execOp, ho]) (hO y) hs
    · simp only [sem, Option.some.injEq, Prod.mk.injEq] at hs; obtain ⟨rfl, rfl⟩ := hs
      exact Good.pure h (v := ρ y) (by simp [execOp, ho]) (hO y)
  | assign y =>
    simp only [cOp, ho] at hs
    split at hs
    · exact mvl_good h (by simp [execOp, ho]) (hO y) hs
    · simp only [sem, Option.some.injEq, Prod.mk.injEq] at hs; obtain ⟨rfl, rfl⟩ := hs
      exact Good.pure h (v := ρ y) (by simp [execOp, ho]) (hO y)
  | pick c y z =>
    simp only [cOp, ho, sem] at hs
    have hcc := hO c
    split at hs
    · rename_i hb
      rw [hb] at hcc
      simp only [Option.some.injEq, Prod.mk.injEq] at hs; obtain ⟨rfl, rfl⟩ := hs
      exact Good.pure h (v := ρ y) (by simp [execOp, ho, bool_rep hcc, asBool]) (hO y)
    · rename_i hb
      rw [hb] at hcc
      simp only [Option.some.injEq, Prod.mk.injEq] at hs; obtain ⟨rfl, rfl⟩ := hs
      exact Good.pure h (v := ρ z) (by simp [execOp, ho, bool_rep hcc, asBool]) (hO z)
    · cases hs
  | alloc e =>
    simp only [cOp, ho] at hs
    split at hs
    · rename_i z hz
      simp only [sem, Option.some.injEq, Prod.mk.injEq] at hs; obtain ⟨rfl, rfl⟩ := hs
      simp only [execOp, ho]
      exact Good.turn (alloc_run h hz)
    · cases hs
  | box e y =>
    simp only [cOp, ho, sem] at hs
    split at hs
    · rename_i hv
      simp only [Option.some.injEq, Prod.mk.injEq] at hs; obtain ⟨rfl, rfl⟩ := hs
      simp only [execOp, ho]
      exact Good.turn (box_run h (hO y) hv)
    · cases hs
  | build t ps =>
    simp only [cOp, ho] at hs
    simp only [execOp, ho]
    split at hs
    · rename_i z fs hz ht
      split at hs
      · rename_i hall
        simp only [Bool.and_eq_true] at hall
        exact Good.same h (build_run (of := offs P fs) h hO hz (.inl ⟨fs, ht, hall.1, hall.2, rfl⟩) hs)
      · cases hs
    · rename_i z n e hz ht
      split at hs
      · rename_i hok
        exact Good.same h (build_run (of := fun i => (i * P.cellsOf e, P.cellsOf e)) h hO hz (.inr ⟨n, e, ht, hok, rfl⟩) hs)
      · cases hs
    · cases hs
  | buildSlice t n ps =>
    simp only [cOp, ho] at hs
    simp only [execOp, ho]
    split at hs
    · rename_i e ht
      split at hs
      · rename_i hall
        simp only [Bool.and_eq_true, decide_eq_true_eq, beq_iff_eq] at hall
        obtain ⟨⟨⟨h1, h2⟩, h3⟩, h4, h5⟩ := hall
        exact Good.turn (mkls_run h hO ht h1 h2 h3 h4 h5 hs)
      · cases hs
    · cases hs
  | load t y =>
    simp only [cOp, ho] at hs
    simp only [execOp, ho]
    split at hs
    · rename_i hok
      exact Good.same h (load_run h hok (hO y) hs)
    · cases hs
  | store t y z =>
    simp only [cOp, ho] at hs
    simp only [execOp, ho]
    split at hs
    · rename_i hok
      obtain ⟨rfl, w', h1, h2, h3⟩ := store_run (P := P) h hok (hO y) (hO z) hs
      exact ⟨_, w', g, undef, unit_run _ _ h1, .inr ⟨rfl, rfl⟩, trivial, h2, h3⟩
    · cases hs
  | nilCheck y =>
    simp only [cOp, ho] at hs
    exact nilck_good h hO ho hs
  | binOp op t y z q =>
    simp only [cOp, ho, sem] at hs
    simp only [execOp, ho]
    split at hs
    · rename_i r hr
      simp only [Option.some.injEq, Prod.mk.injEq] at hs; obtain ⟨rfl, rfl⟩ := hs
      exact bin_good h hO hfl hr
    · cases hs
  | unOp op t y =>
    simp only [cOp, ho, sem] at hs
    simp only [execOp, ho]
    split at hs
    · rename_i r hr
      simp only [Option.some.injEq, Prod.mk.injEq] at hs; obtain ⟨rfl, rfl⟩ := hs
      exact un_good h hO hr
    · cases hs
  | convert src dst y =>
    simp only [cOp, ho] at hs
    simp only [execOp, ho]
    split at hs
    · rename_i k0 k h1 h2
      exact Good.same h (conv_run hO h1 h2 hs)
    · rename_i e h1 h2
      split at hs
      · rename_i he
        exact Good.same h (bts_run h hO h1 he h2 hs)
      · cases hs
    · cases hs
  | makeFunc fn y z =>
    cases fn with
    | func f =>
      simp only [cOp, ho] at hs
      simp only [execOp, ho]
      split at hs
      · rename_i hlt
        exact Good.same h (mkfn_run hO hlt hs)
      · simp [sem] at hs
    | _ => simp [cOp, ho, sem] at hs
  | makeSlice t l c =>
    simp only [cOp, ho] at hs
    simp only [execOp, ho]
    split at hs
    · rename_i e ht
      split at hs
      · rename_i z hsm hz
        simp only [Bool.and_eq_true] at hsm
        have hl := hO l; have hcc := hO c
        simp only [sem] at hs
        split at hs
        · rename_i k n k' m hgl hgc
          rw [hgl] at hl; rw [hgc] at hcc
          split at hs
          · rename_i hn
            obtain ⟨h0, rfl, hr⟩ := hn
            simp only [Option.some.injEq, Prod.mk.injEq] at hs; obtain ⟨rfl, rfl⟩ := hs
            rw [int_rep hl, int_rep hcc]
            exact Good.turn (mksl_run h ht hsm.1 hz h0 hr)
          · cases hs
        · cases hs
      · cases hs
    · cases hs
  | slice t y lo hi mx =>
    simp only [cOp, ho] at hs
    simp only [execOp, ho]
    split at hs
    · rename_i ht
      simp only [sem] at hs
      split at hs
      · rename_i r hr
        simp only [Option.some.injEq, Prod.mk.injEq] at hs; obtain ⟨rfl, rfl⟩ := hs
        exact Good.same h ⟨rfl, slc_run h hO (.inl ⟨ht, rfl⟩) hr⟩
      · cases hs
    · rename_i e ht
      split at hs
      · rename_i hok
        simp only [sem] at hs
        split at hs
        · rename_i r hr
          simp only [Option.some.injEq, Prod.mk.injEq] at hs; obtain ⟨rfl, rfl⟩ := hs
          exact Good.same h ⟨rfl, slc_run h hO (.inr ⟨e, ht, hok.1, rfl, hok.2⟩) hr⟩
        · cases hs
      · cases hs
    · cases hs
  | fieldAddr t y i =>
    simp only [cOp, ho] at hs
    simp only [execOp, ho]
    split at hs
    · rename_i fs ht
      split at hs
      · rename_i f hf
        split at hs
        · cases hs
        · rename_i hz
          exact Good.same h (fad_run hO ht hf hz hs)
      · cases hs
    · cases hs
  | field t y i =>
    simp only [cOp, ho] at hs
    simp only [execOp, ho]
    split at hs
    · rename_i fs ht
      split at hs
      · rename_i f hf
        split at hs
        · rename_i hok
          exact Good.same h (fld_run hO ht hf hok hs)
        · cases hs
      · cases hs
    · cases hs
  | indexAddr t y i =>
    simp only [cOp, ho] at hs
    simp only [execOp, ho]
    split at hs
    · rename_i e ht
      split at hs
      · rename_i hok
        exact Good.same h (iad_run hO (.inl ⟨rfl, ht⟩) hok hs)
      · cases hs
    · rename_i n e ht
      split at hs
      · rename_i hok
        exact Good.same h (iad_run hO (.inr ⟨n, rfl, ht⟩) hok hs)
      · cases hs
    · cases hs
  | index t y i =>
    simp only [cOp, ho] at hs
    simp only [execOp, ho]
    split at hs
    · rename_i ht
      exact Good.same h (idx_run hO (.inl ⟨rfl, ht⟩) hs)
    · rename_i n e ht
      split at hs
      · rename_i hok
        exact Good.same h (idx_run hO (.inr ⟨n, e, rfl, ht, hok⟩) hs)
      · cases hs
    · cases hs
  | extract y i =>
    simp only [cOp, ho] at hs
    simp only [execOp, ho]
    exact Good.same h (ext_run hO hs)
  | call c =>
    cases hcl : c.callee with
    | value f => exact absurd hcl (hc c f ho)
    | invoke _ _ => simp [cOp, ho, hcl, sem] at hs
    | builtin b => exact builtin_good h hO a o ho hcl hs
  | _ => simp [cOp, ho, sem] at hs

end
end Go.Proofs.YtjlebmnlphjjoaaGreatDoor.Abs
namespace Go.Proofs.YtjlebmnlphjjoaaGreatDoor.Abs

/-! ### Lookups -/
theorem posOf_some : ∀ {ks : List Nat} {k j : Nat}, posOf k ks = some j → ks[j]? = some k
  | [], _, _, h => by simp [posOf] at h
  | a :: r, k, j, h => by
    simp only [posOf] at h
    split at h
    · rename_i e; simp at h; subst h; simp [e]
    · split at h
      · rename_i i hi
        simp at h; subst h
        simpa using posOf_some hi
      · cases h

theorem posOf_mem : ∀ {ks : List Nat} {k : Nat}, k ∈ ks → ∃ j, posOf k ks = some j
  | a :: r, k, h => by
    simp only [posOf]
    by_cases e : a = k
    · exact ⟨0, by simp [e]⟩
    · obtain ⟨j, hj⟩ := posOf_mem (ks := r) (k := k) (by
        rcases List.mem_cons.1 h with h | h
        · exact absurd h.symm e
        · exact h)
      exact ⟨j + 1, by simp [e, hj]⟩

theorem posOf_at : ∀ {ks : List Nat} {k j : Nat}, ks.Nodup → ks[j]? = some k → posOf k ks = some j
  | [], _, _, _, h => by simp at h
  | a :: r, k, 0, _, h => by simp at h; simp [posOf, h]
  | a :: r, k, j + 1, hn, h => by
    have hr : r[j]? = some k := by simpa using h
    have hne : a ≠ k := fun e => (List.nodup_cons.1 hn).1 (e ▸ List.mem_of_getElem? hr)
    simp [posOf, hne, posOf_at (List.nodup_cons.1 hn).2 hr]

theorem dedup_mem : ∀ {l : List Nat} {k : Nat}, k ∈ dedup l ↔ k ∈ l
  | [], k => by simp [dedup]
  | a :: r, k => by
    simp only [dedup]
    split
    · rename_i h
      have h' : a ∈ r := dedup_mem.1 (by simpa using h)
      rw [dedup_mem, List.mem_cons]
      exact ⟨.inr, fun h => h.elim (fun e => e ▸ h') id⟩
    · rw [List.mem_cons, List.mem_cons, dedup_mem]

theorem dedup_nodup : ∀ (l : List Nat), (dedup l).Nodup
  | [] => by simp [dedup]
  | a :: r => by
    simp only [dedup]
    split
    · exact dedup_nodup r
    · rename_i h
      exact List.nodup_cons.2 ⟨by simpa using h, dedup_nodup r⟩

theorem dedup_length : ∀ (l : List Nat), (dedup l).length ≤ l.length
  | [] => by simp [dedup]
  | a :: r => by
    simp only [dedup]
    have := dedup_length r
    split
    · simp; omega
    · simp; omega

theorem nodup_of_dedup : ∀ {l : List Nat}, (dedup l).length = l.length → l.Nodup
  | [], _ => by simp
  | a :: r, h => by
    simp only [dedup] at h
    have := dedup_length r
    split at h
    · simp at h; omega
    · rename_i hn
      simp at h
      exact List.nodup_cons.2 ⟨fun hm => hn (by simpa using dedup_mem.2 hm), nodup_of_dedup (by omega)⟩

theorem blocksOf_get {s : Nat → K} : ∀ {ks : List Nat} {bs : List (List PV)}, blocksOf s ks = some bs → bs.length = ks.length ∧ ∀ (j k : Nat), ks[j]? = some k → ∃ ps : List PV, bs[j]? = some ps ∧ (s k).2 = some (ps.map .p)
  | [], bs, h => by simp [blocksOf] at h; subst h; simp
  | a :: r, bs, h => by
    simp only [blocksOf] at h
    split at h
    · rename_i els hels
      split at h
      · rename_i ps hps
        split at h
        · rename_i bs' hbs
          simp only [Option.some.injEq] at h; subst h
          obtain ⟨h1, h2⟩ := blocksOf_get hbs
          refine ⟨by simp [h1], fun j k hj => ?_⟩
          cases j with
          | zero =>
            simp at hj; subst hj
            exact ⟨ps, rfl, by rw [hels, plainAll_eq hps]⟩
          | succ j => exact h2 j k (by simpa using hj)
        · cases h
      · cases h
    · cases h

theorem updAll_append (s : Nat → K) (a b : List (Nat × K)) : updAll s (a ++ b) = updAll (updAll s a) b := by
  induction a generalizing s with
  | nil => rfl
  | cons x r ih => simp only [List.cons_append, updAll, ih]

theorem xkey_inj {d i j : Nat} (h : xkey d i = xkey d j) : i = j := by unfold xkey at h; omega

theorem updAll_new (s : Nat → K) (d : Nat) : ∀ (xs : List (List AV)) (j : Nat) (u : Nat → K) (k : Nat),
    (∃ (i : Nat) (b : List AV), xs[i]? = some b ∧ k = xkey d (j + i) ∧ updAll u (newBlocks s d j xs) k = ((s k).1 + 1, some b)) ∨ ((∀ i, i < xs.length → k ≠ xkey d (j + i)) ∧ updAll u (newBlocks s d j xs) k = u k)
  | [], j, u, k => .inr ⟨by simp, rfl⟩
  | b :: r, j, u, k => by
    simp only [newBlocks, updAll]
    rcases updAll_new s d r (j + 1) (upd u (xkey d j) ((s (xkey d j)).1 + 1, some b)) k with ⟨i, b', h1, h2, h3⟩ | ⟨h1, h2⟩
    · exact .inl ⟨i + 1, b', by simpa using h1, by rw [h2]; congr 1; omega, h3⟩
    · rw [h2]
      by_cases hk : k = xkey d j
      · subst hk
        exact .inl ⟨0, b, by simp, by simp, by rw [upd_same]⟩
      · refine .inr ⟨fun i hi => ?_, by rw [upd_ne _ _ hk]⟩
        cases i with
        | zero => simpa using hk
        | succ i =>
          have := h1 i (by simp at hi; omega)
          have e : j + 1 + i = j + (i + 1) := by omega
          rwa [e] at this

theorem updAll_put (s : Nat → K) : ∀ (ks : List Nat) (bs : List (List PV)) (u : Nat → K) (k : Nat), ks.Nodup →
    (∃ (j : Nat) (b : List PV), ks[j]? = some k ∧ bs[j]? = some b ∧ updAll u (putBlocks s ks bs) k = ((s k).1, some (b.map .p))) ∨ ((∀ (j : Nat) (b : List PV), ks[j]? = some k → bs[j]? = some b → False) ∧ updAll u (putBlocks s ks bs) k = u k)
  | [], bs, u, k, _ => .inr ⟨by simp, by simp [putBlocks, updAll]⟩
  | a :: r, [], u, k, _ => .inr ⟨by simp, by simp [putBlocks, updAll]⟩
  | a :: r, b :: bs, u, k, hn => by
    obtain ⟨h0, hn'⟩ := List.nodup_cons.1 hn
    simp only [putBlocks, updAll]
    rcases updAll_put s r bs (upd u a ((s a).1, some (b.map .p))) k hn' with ⟨j, b', h1, h2, h3⟩ | ⟨h1, h2⟩
    · exact .inl ⟨j + 1, b', by simpa using h1, by simpa using h2, h3⟩
    · rw [h2]
      by_cases hk : k = a
      · subst hk
        exact .inl ⟨0, b, by simp, by simp, by rw [upd_same]⟩
      · refine .inr ⟨fun j b' hj hb => ?_, by rw [upd_ne _ _ hk]⟩
        cases j with
        | zero => simp at hj; exact hk hj.symm
        | succ j => exact h1 j b' (by simpa using hj) (by simpa using hb)

/-! ### What a callee is handed, and what it gives -/
def inS (bs : List (List PV)) : Nat → K := fun k => if k < 900 then (0, none) else match bs[k - 900]? with | some b => (0, some (b.map .p)) | none => (0, none)

def outS (o : Out) : Nat → K := fun k => if k < 900 then (0, none) else if k < 950 then (match o.b[k - 900]? with | some b => (0, some (b.map .p)) | none => (0, none))
  else match o.x[k - 950]? with | some b => (0, some b) | none => (0, none)

theorem inS_ver (bs : List (List PV)) (k : Nat) : (inS bs k).1 = 0 := by
  unfold inS
  split
  · rfl
  · split <;> rfl

theorem outS_ver (o : Out) (k : Nat) : (outS o k).1 = 0 := by
  unfold outS
  split
  · rfl
  · split
    · split <;> rfl
    · split <;> rfl

theorem inS_some {bs : List (List PV)} {k : Nat} {els : List AV} (h : (inS bs k).2 = some els) : ∃ j b, k = 900 + j ∧ bs[j]? = some b ∧ els = b.map .p := by
  unfold inS at h
  split at h
  · cases h
  · split at h
    · rename_i b hb
      exact ⟨k - 900, b, by omega, hb, by simpa using h.symm⟩
    · cases h

theorem inS_at {bs : List (List PV)} {j : Nat} {b : List PV} (h : bs[j]? = some b) : inS bs (900 + j) = (0, some (b.map .p)) := by
  unfold inS
  have e : 900 + j - 900 = j := by omega
  rw [if_neg (by omega), e, h]

theorem outS_some {o : Out} {k : Nat} {els : List AV} (h : (outS o k).2 = some els) : (∃ j b, j < 50 ∧ k = 900 + j ∧ o.b[j]? = some b ∧ els = b.map .p) ∨ (∃ j b, k = 950 + j ∧ o.x[j]? = some b ∧ els = b) := by
  unfold outS at h
  split at h
  · cases h
  · split at h
    · split at h
      · rename_i b hb
        exact .inl ⟨k - 900, b, by omega, by omega, hb, by simpa using h.symm⟩
      · cases h
    · split at h
      · rename_i b hb
        exact .inr ⟨k - 950, b, by omega, hb, by simpa using h.symm⟩
      · cases h

theorem outS_b {o : Out} {j : Nat} {b : List PV} (hj : j < 50) (h : o.b[j]? = some b) : outS o (900 + j) = (0, some (b.map .p)) := by
  unfold outS
  have e : 900 + j - 900 = j := by omega
  rw [if_neg (by omega), if_pos (by omega), e, h]

theorem outS_x {o : Out} {j : Nat} {b : List AV} (h : o.x[j]? = some b) : outS o (950 + j) = (0, some b) := by
  unfold outS
  have e : 950 + j - 950 = j := by omega
  rw [if_neg (by omega), if_neg (by omega), e, h]

/-- The blocks of the boxes that are handed over. -/
def inPl (g : G) (bs : List (List PV)) : Nat → Prop := fun b => ∃ j p, j < bs.length ∧ g.bk (900 + j) = some p ∧ p.b = b

/-- How a call ends. -/
def Ends (w : World) (g : G) (bs : List (List PV)) (out : Out) (v : Value) (w' : World) : Prop :=
  ∃ g', Inv w (inPl g bs) g.fz g' (outS out) w' ∧ out.b.length = bs.length ∧ (∀ (j : Nat) (b b' : List PV), bs[j]? = some b → out.b[j]? = some b' → g'.bk (900 + j) = g.bk (900 + j) ∧ b'.length = b.length) ∧ RepA g' (outS out) v out.r

def CSound (P : Program) (C : CFT) : Prop := ∀ f as bs out, C f as bs = some out → bs.length ≤ 50 → ∀ (w : World) (g : G) (vs : List Value),
  Inv w (inPl g bs) g.fz g (inS bs) w → RepTV g (inS bs) vs as →
  (∀ w', (callFunc (f % 10000) vs.toArray).run P w' = .ok (.enter (f % 10000) vs.toArray) w') ∧ Calls P (f % 10000) vs.toArray w fun e w' => ∃ v, e = .returned v ∧ Ends w g bs out v w'

section
variable {P : Program} {w0 : World} {S : Nat → Prop} {fz0 : Fz} {g : G} {s : Nat → K} {w w' : World} {E : Env} {C : CFT} {d : Nat} {gf : Opd → AV} {ρ : Operand → Value}

/-- Boxes laid down, under any versions. -/
theorem Inv.hush (h : Inv w0 S fz0 g s w) (ks : List Nat) (s' : Nat → K) (hs : ∀ k, (s' k).2 = if k ∈ ks then none else (s k).2) (e : Ext g s { g with fz := fzOf g s w ks } s') :
    Inv w0 S fz0 { g with fz := fzOf g s w ks } s' w := by
  have live : ∀ {k : Nat} {els : List AV}, (s' k).2 = some els → k ∉ ks ∧ (s k).2 = some els := by
    intro k els hk
    rw [hs] at hk
    split at hk
    · cases hk
    · rename_i hn; exact ⟨hn, hk⟩
  refine ⟨h.os, h.tape, h.output, h.size, h.old, Fz.le_trans h.fzle (fzOf_le h ks), fzOf_ok h ks, fun b o v hv => ?_, fun k els hk => ?_, fun k els p hk hp => ?_, fun k k' els els' p p' h1 h2 hp hp' hne => ?_⟩
  · have hv' : fzOf g s w ks b o = some v := hv
    unfold fzOf at hv'
    split at hv'
    · rename_i hx
      obtain ⟨k, els, p, _, h1, h2, rfl⟩ := hx
      exact .inr (h.own k els p h1 h2).1
    · exact h.fznew b o v hv'
  · obtain ⟨hn, hk'⟩ := live hk
    rcases h.box k els hk' with hx | ⟨p, hp, hx⟩
    · exact .inl hx
    · exact .inr ⟨p, hp, hx.mono e rfl⟩
  · obtain ⟨hn, hk'⟩ := live hk
    refine ⟨(h.own k els p hk' hp).1, fun o => ?_⟩
    show fzOf g s w ks p.b o = none
    unfold fzOf
    rw [if_neg]
    · exact (h.own k els p hk' hp).2 o
    · rintro ⟨k', els', p', hm, h1, h2, h3⟩
      exact h.apart k' k els' els p' p h1 hk' h2 hp (fun e => hn (e ▸ hm)) h3
  · exact h.apart k k' els els' p p' (live h1).2 (live h2).2 hp hp' hne

theorem Inv.lt (h : Inv w0 S fz0 g s w) {k : Nat} {els : List AV} {p : Pl} (hk : (s k).2 = some els) (hp : g.bk k = some p) : p.b < w.heap.size := by
  rcases h.box k els hk with ⟨_, hy⟩ | ⟨q, hq, hx⟩
  · rw [hp] at hy; cases hy
  · rw [hp] at hq; cases hq; exact hx.lt

theorem BoxAt.plain {g g' : G} {s s' : Nat → K} {w w' : World} {p : Pl} {ps : List PV} (hle : Fz.le g.fz g'.fz) (hb : w'.heap[p.b]? = w.heap[p.b]?) (h : BoxAt g s w p (ps.map .p)) : BoxAt g' s' w' p (ps.map .p) := by
  obtain ⟨c, t, h1, h2, h3, h4⟩ := h
  refine ⟨c, t, hb.trans h1, h2, h3, fun i el hi => ?_⟩
  obtain ⟨a, b, hc⟩ := h4 i el hi
  refine ⟨a, b, fun j x hx => ?_⟩
  obtain ⟨v, h5, h6, h7⟩ := hc j x hx
  refine ⟨v, h5, h6, ?_⟩
  rw [List.getElem?_map] at hi
  cases hps : ps[i]? with
  | none => simp [hps] at hi
  | some y =>
    simp [hps] at hi; subst hi
    rw [cells_p, List.getElem?_map] at hx
    cases hcs : y.cells[j]? with
    | none => simp [hcs] at hx
    | some z =>
      simp [hcs] at hx; subst hx
      exact RepP.mono hle h7

/-- A box's content under other names. -/
def Turn (g : G) (s : Nat → K) (g' : G) (s' : Nat → K) (els els' : List AV) : Prop :=
  els'.length = els.length ∧ ∀ (i : Nat) (el el' : AV), els[i]? = some el → els'[i]? = some el' → (vok el = true → vok el' = true) ∧ el'.cells.length = el.cells.length ∧
    ∀ (j : Nat) (x x' : AV), el.cells[j]? = some x → el'.cells[j]? = some x' → ∀ v, RepC g s v x → RepC g' s' v x'

theorem Turn.plain {g g' : G} {s s' : Nat → K} (hle : Fz.le g.fz g'.fz) (ps : List PV) : Turn g s g' s' (ps.map .p) (ps.map .p) := by
  refine ⟨rfl, fun i el el' h1 h2 => ?_⟩
  rw [h1] at h2
  obtain rfl : el = el' := by simpa using h2
  refine ⟨id, rfl, fun j x x' hx hx' v hv => ?_⟩
  rw [hx] at hx'
  obtain rfl : x = x' := by simpa using hx'
  rw [List.getElem?_map] at h1
  cases hps : ps[i]? with
  | none => simp [hps] at h1
  | some y =>
    simp [hps] at h1; subst h1
    rw [cells_p, List.getElem?_map] at hx
    cases hcs : y.cells[j]? with
    | none => simp [hcs] at hx
    | some z =>
      simp [hcs] at hx; subst hx
      exact RepP.mono hle hv

theorem Turn.flat {g : G} {s : Nat → K} {fz' : Fz} {els : List AV} (hf : els.all flatV = true) : Turn g s { g with fz := fz' } s els els := by
  refine ⟨rfl, fun i el el' h1 h2 => ?_⟩
  rw [h1] at h2
  obtain rfl : el = el' := by simpa using h2
  refine ⟨id, rfl, fun j x x' hx hx' v hv => ?_⟩
  rw [hx] at hx'
  obtain rfl : x = x' := by simpa using hx'
  exact flatC_rep (flatV_cells (List.all_eq_true.1 hf el (List.mem_of_getElem? h1)) hx) hv

theorem BoxAt.turn {g g' : G} {s s' : Nat → K} {w w' : World} {p : Pl} {els els' : List AV} (ht : Turn g s g' s' els els') (hb : w'.heap[p.b]? = w.heap[p.b]?) (h : BoxAt g s w p els) : BoxAt g' s' w' p els' := by
  obtain ⟨c, t, h1, h2, h3, h4⟩ := h
  obtain ⟨hl, hc⟩ := ht
  refine ⟨c, t, hb.trans h1, h2, by rw [hl]; exact h3, fun i el' hi => ?_⟩
  have hlt : i < els.length := by rw [← hl]; exact (List.getElem?_eq_some_iff.1 hi).1
  obtain ⟨a, b, hcell⟩ := h4 i els[i] (List.getElem?_eq_getElem hlt)
  obtain ⟨q1, q2, q3⟩ := hc i _ el' (List.getElem?_eq_getElem hlt) hi
  refine ⟨q1 a, q2.trans b, fun j x' hx' => ?_⟩
  have hjl : j < els[i].cells.length := by rw [← q2]; exact (List.getElem?_eq_some_iff.1 hx').1
  obtain ⟨v, h5, h6, h7⟩ := hcell j _ (List.getElem?_eq_getElem hjl)
  exact ⟨v, h5, h6, q3 j _ x' (List.getElem?_eq_getElem hjl) hx' v h7⟩

/-- Back from a call: the caller's boxes that were not handed over lie as they lay, the rest is the callee's. -/
theorem Inv.leave (h : Inv w0 S fz0 g s w) {SI : Nat → Prop} {g' gN : G} {s' sN : Nat → K} (ks : List Nat)
    (hSI : ∀ b, SI b → ∃ k els p, k ∈ ks ∧ (s k).2 = some els ∧ g.bk k = some p ∧ p.b = b)
    (hI : Inv w SI g.fz g' s' w') (hfz : gN.fz = g'.fz) (hE : Ext g s gN sN) (σ : Nat → Nat → Prop) (hσ : ∀ k1 k2 k', σ k1 k' → σ k2 k' → k1 = k2)
    (hc : ∀ k els, (sN k).2 = some els → ((s k).2 = some els ∧ gN.bk k = g.bk k ∧ k ∉ ks) ∨ ∃ (k' : Nat) (els' : List AV), σ k k' ∧ (s' k').2 = some els' ∧ gN.bk k = g'.bk k' ∧ Turn g' s' gN sN els' els) :
    Inv w0 S fz0 gN sN w' := by
  have nS : ∀ {k els p}, (s k).2 = some els → g.bk k = some p → k ∉ ks → ¬ SI p.b := fun {k els p} h1 h2 h3 hs => by
    obtain ⟨k2, els2, p2, m, q1, q2, q3⟩ := hSI _ hs
    exact h.apart k2 k els2 els p2 p q1 h1 q2 h2 (fun e => h3 (e ▸ m)) q3
  have SIown : ∀ {b}, SI b → w0.heap.size ≤ b ∨ S b := fun {b} hs => by
    obtain ⟨k2, els2, p2, m, q1, q2, q3⟩ := hSI _ hs
    rw [← q3]; exact (h.own k2 els2 p2 q1 q2).1
  refine ⟨hI.os.trans h.os, hI.tape.trans h.tape, hI.output.trans h.output, Nat.le_trans h.size hI.size, fun b hb hs => ?_, by rw [hfz]; exact Fz.le_trans h.fzle hI.fzle,
    fun b o v hv => ?_, fun b o v hv => ?_, fun k els hk => ?_, fun k els p hk hp => ?_, fun k1 k2 els1 els2 p1 p2 hk1 hk2 hp1 hp2 hne => ?_⟩
  · rw [hI.old b (Nat.lt_of_lt_of_le hb h.size) fun hs' => ?_]
    · exact h.old b hb hs
    · rcases SIown hs' with h1 | h1
      · omega
      · exact hs h1
  · rw [hfz] at hv; exact hI.fzok b o v hv
  · rw [hfz] at hv
    rcases hI.fznew b o v hv with h1 | h1 | h1
    · exact h.fznew b o v h1
    · exact .inr (.inl (Nat.le_trans h.size h1))
    · exact .inr (SIown h1)
  · rcases hc k els hk with ⟨h1, h2, h3⟩ | ⟨k', els', h1, h3, h4, h5⟩
    · rcases h.box k els h1 with ⟨hx, hy⟩ | ⟨p, hp, hx⟩
      · exact .inl ⟨hx, h2.trans hy⟩
      · exact .inr ⟨p, h2.trans hp, hx.mono hE (hI.old _ hx.lt (nS h1 hp h3))⟩
    · rcases hI.box k' _ h3 with ⟨hx, hy⟩ | ⟨p, hp, hx⟩
      · subst hx; exact .inl ⟨List.eq_nil_of_length_eq_zero h5.1, h4.trans hy⟩
      · exact .inr ⟨p, h4.trans hp, hx.turn h5 rfl⟩
  · rcases hc k els hk with ⟨h1, h2, h3⟩ | ⟨k', els', h1, h3, h4, h5⟩
    · rw [h2] at hp
      refine ⟨(h.own k els p h1 hp).1, fun o => ?_⟩
      rw [hfz]
      cases hf : g'.fz p.b o with
      | none => rfl
      | some v =>
        rcases hI.fznew _ _ _ hf with q | q | q
        · rw [(h.own k els p h1 hp).2 o] at q; cases q
        · have := h.lt h1 hp; omega
        · exact absurd q (nS h1 hp h3)
    · rw [h4] at hp
      obtain ⟨q1, q2⟩ := hI.own k' _ p h3 hp
      refine ⟨?_, fun o => by rw [hfz]; exact q2 o⟩
      rcases q1 with q | q
      · exact .inl (Nat.le_trans h.size q)
      · exact SIown q
  · have mixed : ∀ {k1 k2 els1 els2 p1 p2 k'}, (s k1).2 = some els1 → g.bk k1 = some p1 → k1 ∉ ks → (s' k').2 = some els2 → g'.bk k' = some p2 → k1 ≠ k2 → p1.b ≠ p2.b := fun {k1 k2 els1 els2 p1 p2 k'} a1 a2 a3 b1 b2 _ => by
      have hl := h.lt a1 a2
      rcases (hI.own k' _ p2 b1 b2).1 with q | q
      · omega
      · exact fun e => nS a1 a2 a3 (e ▸ q)
    rcases hc k1 els1 hk1 with ⟨a1, a2, a3⟩ | ⟨k1', els1', a1, a3, a4, _⟩ <;> rcases hc k2 els2 hk2 with ⟨b1, b2, b3⟩ | ⟨k2', els2', b1, b3, b4, _⟩
    · exact h.apart k1 k2 els1 els2 p1 p2 a1 b1 (a2 ▸ hp1) (b2 ▸ hp2) hne
    · exact mixed a1 (a2 ▸ hp1) a3 b3 (b4 ▸ hp2) hne
    · exact fun e => mixed b1 (b2 ▸ hp2) b3 a3 (a4 ▸ hp1) (Ne.symm hne) e.symm
    · refine hI.apart k1' k2' els1' els2' p1 p2 a3 b3 (a4 ▸ hp1) (b4 ▸ hp2) fun e => ?_
      subst e
      exact hne (hσ _ _ _ a1 b1)

end
end Go.Proofs.YtjlebmnlphjjoaaGreatDoor.Abs
namespace Go.Proofs.YtjlebmnlphjjoaaGreatDoor.Abs

/-! ### Handles under new names -/
/-- Box j of one state is box k of version vk of another. -/
def Hd (g : G) (s : Nat → K) (g' : G) (s' : Nat → K) (j k vk : Nat) : Prop :=
  vk ≤ (s' k).1 ∧ ((s' k).1 = vk → g'.bk k = g.bk j ∧ ∀ els, (s' k).2 = some els → ∃ els0, (s j).2 = some els0 ∧ els0.length = els.length)

section
variable {g g' : G} {s s' : Nat → K} {v : Value}

theorem RepC.mp_move {j ver i o k vk : Nat} (h : RepC g s v (.mp j ver i o)) (hv : (s j).1 = ver) (hd : Hd g s g' s' j k vk) : RepC g' s' v (.mp k vk i o) := by
  obtain ⟨h0, _, h2⟩ := h
  refine ⟨h0, hd.1, fun hk => ?_⟩
  obtain ⟨p, hp, hx⟩ := h2 hv
  exact ⟨p, (hd.2 hk).1.trans hp, hx⟩

theorem RepC.ms_move {j ver o n z k vk : Nat} (h : RepC g s v (.ms j ver o n z)) (hv : (s j).1 = ver) (hd : Hd g s g' s' j k vk) : RepC g' s' v (.ms k vk o n z) := by
  obtain ⟨h0, _, h2⟩ := h
  refine ⟨h0, hd.1, fun hk => ?_⟩
  obtain ⟨hb, hl⟩ := hd.2 hk
  rcases h2 hv with ⟨b, hx, hsp, hn, he⟩ | ⟨p, cap, hp, hz, hx, hc, hC, he⟩
  · refine .inl ⟨b, hx, hsp, hn, fun els hels => ?_⟩
    obtain ⟨els0, q1, q2⟩ := hl els hels
    have := he els0 q1; omega
  · refine .inr ⟨p, cap, hb.trans hp, hz, hx, hc, hC, fun els hels => ?_⟩
    obtain ⟨els0, q1, q2⟩ := hl els hels
    have := he els0 q1; omega

/-! ### Into a call -/
theorem handC_rep (hle : Fz.le g.fz g'.fz) {ks : List Nat} (hk : ∀ j k, ks[j]? = some k → Hd g s g' s' k (900 + j) 0) {sh : Option Nat} {x y : AV} (hy : handC ks s sh x = some y) (h : RepC g s v x) : RepC g' s' v y := by
  cases x with
  | p x => simp only [handC, Option.some.injEq] at hy; subst hy; exact normC_rep sh (RepP.mono hle h)
  | e0 z => simp only [handC, Option.some.injEq] at hy; subst hy; obtain ⟨b, rfl, hb⟩ := h; exact repLs hb
  | mp k ver i o =>
    simp only [handC] at hy
    split at hy
    · rename_i hv
      split at hy
      · rename_i j hj
        simp only [Option.some.injEq] at hy; subst hy
        exact h.mp_move hv (hk j k (posOf_some hj))
      · simp only [Option.some.injEq] at hy; subst hy; trivial
    · cases hy
  | ms k ver o n z =>
    simp only [handC] at hy
    split at hy
    · rename_i hv
      split at hy
      · rename_i j hj
        simp only [Option.some.injEq] at hy; subst hy
        exact h.ms_move hv (hk j k (posOf_some hj))
      · simp only [Option.some.injEq] at hy; subst hy; trivial
    · cases hy
  | _ => simp [handC] at hy

theorem handCs_rep (hle : Fz.le g.fz g'.fz) {ks : List Nat} (hk : ∀ j k, ks[j]? = some k → Hd g s g' s' k (900 + j) 0) : ∀ {vs : List Value} {xs ys : List AV} (sh : Shape), handCs ks s sh xs = some ys → RepCs g s vs xs → RepCs g' s' vs ys
  | [], [], ys, sh, hy, _ => by simp [handCs] at hy; subst hy; trivial
  | v :: vs, x :: xs, ys, sh, hy, ⟨h, o, r⟩ => by
    simp only [handCs] at hy
    split at hy
    · rename_i y h1
      split at hy
      · rename_i zs h2
        simp only [Option.some.injEq] at hy; subst hy
        exact ⟨handC_rep hle hk h1 h, o, handCs_rep hle hk _ h2 r⟩
      · cases hy
    · cases hy
  | [], _ :: _, _, _, _, h => h.elim
  | _ :: _, [], _, _, _, h => h.elim

theorem handTs_rep (hle : Fz.le g.fz g'.fz) {ks : List Nat} (hk : ∀ j k, ks[j]? = some k → Hd g s g' s' k (900 + j) 0) : ∀ {vs : List Value} {xs ys : List AV} (sh : Shape), handCs ks s sh xs = some ys → RepTC g s vs xs → RepTC g' s' vs ys
  | [], [], ys, sh, hy, _ => by simp [handCs] at hy; subst hy; trivial
  | v :: vs, x :: xs, ys, sh, hy, ⟨h, r⟩ => by
    simp only [handCs] at hy
    split at hy
    · rename_i y h1
      split at hy
      · rename_i zs h2
        simp only [Option.some.injEq] at hy; subst hy
        exact ⟨handC_rep hle hk h1 h, handTs_rep hle hk _ h2 r⟩
      · cases hy
    · cases hy
  | [], _ :: _, _, _, _, h => h.elim
  | _ :: _, [], _, _, _, h => h.elim

theorem RepV.ofC {x : AV} (h : RepC g s v x) : RepV g s v x := by
  cases x with
  | ag cs => exact h.elim
  | cl f a c => exact h.elim
  | tu xs => exact h.elim
  | _ => exact h

theorem handC_cell {ks : List Nat} {sh : Option Nat} {x y : AV} (hy : handC ks s sh x = some y) (h : RepV g s v x) : RepC g s v x := by
  cases x with
  | ag cs => simp [handC] at hy
  | cl f a c => simp [handC] at hy
  | tu xs => simp [handC] at hy
  | un => simp [handC] at hy
  | _ => exact h

theorem hand_rep (hle : Fz.le g.fz g'.fz) {ks : List Nat} (hk : ∀ j k, ks[j]? = some k → Hd g s g' s' k (900 + j) 0) {sh : Shape} {x y : AV} (hy : hand ks s sh x = some y) (h : RepV g s v x) : RepV g' s' v y := by
  cases x with
  | p x => simp only [hand, Option.some.injEq] at hy; subst hy; exact normP_rep sh (RepP.mono hle h)
  | ag cs =>
    simp only [hand] at hy
    split at hy
    · rename_i cs' hc
      simp only [Option.some.injEq] at hy; subst hy
      obtain ⟨vs, hv, hr⟩ := h
      exact ⟨vs, hv, handCs_rep hle hk _ hc hr⟩
    · cases hy
  | cl f a c =>
    simp only [hand] at hy
    split at hy
    · rename_i a' ha
      split at hy
      · rename_i c' hc
        simp only [Option.some.injEq] at hy; subst hy
        obtain ⟨va, vc, hv, hra, hrc⟩ := h
        exact ⟨va, vc, hv, handTs_rep hle hk _ ha hra, handTs_rep hle hk _ hc hrc⟩
      · cases hy
    · cases hy
  | e0 z => exact RepV.ofC (handC_rep (sh := none) (x := .e0 z) hle hk hy h)
  | mp k ver i o => exact RepV.ofC (handC_rep (sh := none) (x := .mp k ver i o) hle hk hy h)
  | ms k ver o n z => exact RepV.ofC (handC_rep (sh := none) (x := .ms k ver o n z) hle hk hy h)
  | tu xs => simp [hand, handC] at hy
  | un => simp [hand, handC] at hy

theorem hands_rep (hle : Fz.le g.fz g'.fz) {ks : List Nat} (hk : ∀ j k, ks[j]? = some k → Hd g s g' s' k (900 + j) 0) : ∀ {vs : List Value} {xs ys : List AV} (sh : List Shape), hands ks s sh xs = some ys → RepTV g s vs xs → RepTV g' s' vs ys
  | [], [], ys, sh, hy, _ => by simp [hands] at hy; subst hy; trivial
  | v :: vs, x :: xs, ys, sh, hy, ⟨h, r⟩ => by
    simp only [hands] at hy
    split at hy
    · rename_i y h1
      split at hy
      · rename_i zs h2
        simp only [Option.some.injEq] at hy; subst hy
        exact ⟨hand_rep hle hk h1 h, hands_rep hle hk _ h2 r⟩
      · cases hy
    · cases hy
  | [], _ :: _, _, _, _, h => h.elim
  | _ :: _, [], _, _, _, h => h.elim

/-! ### Back -/
theorem backC_rep {ks : List Nat} {nx d : Nat} {s0 : Nat → K} (hle : Fz.le g.fz g'.fz) (hz : ∀ k, (s k).1 = 0) (hk : ∀ j k, j < 50 → ks[j]? = some k → Hd g s g' s' (900 + j) k (s0 k).1)
    (hx : ∀ i, i < nx → Hd g s g' s' (950 + i) (xkey d i) ((s0 (xkey d i)).1 + 1)) {x y : AV} (hy : backC ks nx s0 d x = some y) (h : RepC g s v x) : RepC g' s' v y := by
  have ver0 : ∀ {k ver : Nat}, ver ≤ (s k).1 → (s k).1 = ver := fun {k ver} hl => by have := hz k; omega
  cases x with
  | p x => simp only [backC, Option.some.injEq] at hy; subst hy; exact RepP.mono hle h
  | e0 z => simp only [backC, Option.some.injEq] at hy; subst hy; exact h
  | mp j ver i o =>
    simp only [backC] at hy
    split at hy
    · cases hy
    · split at hy
      · split at hy
        · rename_i hj1 hj2 k hkk
          simp only [Option.some.injEq] at hy; subst hy
          have hj : 900 + (j - 900) = j := by omega
          exact h.mp_move (ver0 h.2.1) (by have := hk (j - 900) k (by omega) hkk; rwa [hj] at this)
        · cases hy
      · split at hy
        · rename_i hj1 hj2 hj3
          simp only [Option.some.injEq] at hy; subst hy
          have hj : 950 + (j - 950) = j := by omega
          exact h.mp_move (ver0 h.2.1) (by have := hx (j - 950) hj3; rwa [hj] at this)
        · cases hy
  | ms j ver o n z =>
    simp only [backC] at hy
    split at hy
    · cases hy
    · split at hy
      · split at hy
        · rename_i hj1 hj2 k hkk
          simp only [Option.some.injEq] at hy; subst hy
          have hj : 900 + (j - 900) = j := by omega
          exact h.ms_move (ver0 h.2.1) (by have := hk (j - 900) k (by omega) hkk; rwa [hj] at this)
        · cases hy
      · split at hy
        · rename_i hj1 hj2 hj3
          simp only [Option.some.injEq] at hy; subst hy
          have hj : 950 + (j - 950) = j := by omega
          exact h.ms_move (ver0 h.2.1) (by have := hx (j - 950) hj3; rwa [hj] at this)
        · cases hy
  | _ => simp [backC] at hy

theorem backCs_rep {ks : List Nat} {nx d : Nat} {s0 : Nat → K} (hle : Fz.le g.fz g'.fz) (hz : ∀ k, (s k).1 = 0) (hk : ∀ j k, j < 50 → ks[j]? = some k → Hd g s g' s' (900 + j) k (s0 k).1)
    (hx : ∀ i, i < nx → Hd g s g' s' (950 + i) (xkey d i) ((s0 (xkey d i)).1 + 1)) : ∀ {vs : List Value} {xs ys : List AV}, backCs ks nx s0 d xs = some ys → RepCs g s vs xs → RepCs g' s' vs ys
  | [], [], ys, hy, _ => by simp [backCs] at hy; subst hy; trivial
  | v :: vs, x :: xs, ys, hy, ⟨h, o, r⟩ => by
    simp only [backCs] at hy
    split at hy
    · rename_i y h1
      split at hy
      · rename_i zs h2
        simp only [Option.some.injEq] at hy; subst hy
        exact ⟨backC_rep hle hz hk hx h1 h, o, backCs_rep hle hz hk hx h2 r⟩
      · cases hy
    · cases hy
  | [], _ :: _, _, _, h => h.elim
  | _ :: _, [], _, _, h => h.elim

theorem backV_rep {ks : List Nat} {nx d : Nat} {s0 : Nat → K} (hle : Fz.le g.fz g'.fz) (hz : ∀ k, (s k).1 = 0) (hk : ∀ j k, j < 50 → ks[j]? = some k → Hd g s g' s' (900 + j) k (s0 k).1)
    (hx : ∀ i, i < nx → Hd g s g' s' (950 + i) (xkey d i) ((s0 (xkey d i)).1 + 1)) {x y : AV} (hy : backV ks nx s0 d x = some y) (h : RepV g s v x) : RepV g' s' v y := by
  cases x with
  | ag cs =>
    simp only [backV] at hy
    split at hy
    · rename_i cs' hc
      simp only [Option.some.injEq] at hy; subst hy
      obtain ⟨vs, hv, hr⟩ := h
      exact ⟨vs, hv, backCs_rep hle hz hk hx hc hr⟩
    · cases hy
  | p x => simp only [backV, Option.some.injEq] at hy; subst hy; exact RepP.mono hle h
  | e0 z => exact RepV.ofC (backC_rep (x := .e0 z) hle hz hk hx hy h)
  | mp k ver i o => exact RepV.ofC (backC_rep (x := .mp k ver i o) hle hz hk hx hy h)
  | ms k ver o n z => exact RepV.ofC (backC_rep (x := .ms k ver o n z) hle hz hk hx hy h)
  | tu xs => simp [backV, backC] at hy
  | un => simp [backV, backC] at hy
  | cl f a c => simp [backV, backC] at hy

theorem backVs_rep {ks : List Nat} {nx d : Nat} {s0 : Nat → K} (hle : Fz.le g.fz g'.fz) (hz : ∀ k, (s k).1 = 0) (hk : ∀ j k, j < 50 → ks[j]? = some k → Hd g s g' s' (900 + j) k (s0 k).1)
    (hx : ∀ i, i < nx → Hd g s g' s' (950 + i) (xkey d i) ((s0 (xkey d i)).1 + 1)) : ∀ {vs : List Value} {xs ys : List AV}, backVs ks nx s0 d xs = some ys → RepTV g s vs xs → RepTV g' s' vs ys
  | [], [], ys, hy, _ => by simp [backVs] at hy; subst hy; trivial
  | v :: vs, x :: xs, ys, hy, ⟨h, r⟩ => by
    simp only [backVs] at hy
    split at hy
    · rename_i y h1
      split at hy
      · rename_i zs h2
        simp only [Option.some.injEq] at hy; subst hy
        exact ⟨backV_rep hle hz hk hx h1 h, backVs_rep hle hz hk hx h2 r⟩
      · cases hy
    · cases hy
  | [], _ :: _, _, _, h => h.elim
  | _ :: _, [], _, _, h => h.elim

theorem back_rep {ks : List Nat} {nx d : Nat} {s0 : Nat → K} (hle : Fz.le g.fz g'.fz) (hz : ∀ k, (s k).1 = 0) (hk : ∀ j k, j < 50 → ks[j]? = some k → Hd g s g' s' (900 + j) k (s0 k).1)
    (hx : ∀ i, i < nx → Hd g s g' s' (950 + i) (xkey d i) ((s0 (xkey d i)).1 + 1)) {x y : AV} (hy : back ks nx s0 d x = some y) (h : RepA g s v x) : RepA g' s' v y := by
  cases x with
  | tu xs =>
    simp only [back] at hy
    split at hy
    · rename_i ys hc
      simp only [Option.some.injEq] at hy; subst hy
      obtain ⟨vs, hv, hr⟩ := h
      exact ⟨vs, hv, backVs_rep hle hz hk hx hc hr⟩
    · cases hy
  | p x => simp only [back, Option.some.injEq] at hy; subst hy; exact RepP.mono hle h
  | e0 z => exact (backV_rep (x := .e0 z) hle hz hk hx hy h).toA
  | mp k ver i o => exact (backV_rep (x := .mp k ver i o) hle hz hk hx hy h).toA
  | ms k ver o n z => exact (backV_rep (x := .ms k ver o n z) hle hz hk hx hy h).toA
  | ag cs => exact (backV_rep (x := .ag cs) hle hz hk hx hy h).toA
  | un => simp [back, backV, backC] at hy
  | cl f a c => simp [back, backV, backC] at hy

/-! What comes back in boxes -/
theorem backCs_get {ks : List Nat} {nx d : Nat} {s0 : Nat → K} : ∀ {xs ys : List AV}, backCs ks nx s0 d xs = some ys → ys.length = xs.length ∧ ∀ (j : Nat) (x y : AV), xs[j]? = some x → ys[j]? = some y → backC ks nx s0 d x = some y
  | [], ys, h => by simp [backCs] at h; subst h; simp
  | x :: xs, ys, h => by
    simp only [backCs] at h
    split at h
    · rename_i y h1
      split at h
      · rename_i zs h2
        simp only [Option.some.injEq] at h; subst h
        obtain ⟨l, hh⟩ := backCs_get h2
        refine ⟨by simp [l], fun j a b ha hb => ?_⟩
        cases j with
        | zero => simp only [List.getElem?_cons_zero, Option.some.injEq] at ha hb; subst ha; subst hb; exact h1
        | succ j => exact hh j a b (by simpa using ha) (by simpa using hb)
      · cases h
    · cases h

theorem backVs_get {ks : List Nat} {nx d : Nat} {s0 : Nat → K} : ∀ {xs ys : List AV}, backVs ks nx s0 d xs = some ys → ys.length = xs.length ∧ ∀ (j : Nat) (x y : AV), xs[j]? = some x → ys[j]? = some y → backV ks nx s0 d x = some y
  | [], ys, h => by simp [backVs] at h; subst h; simp
  | x :: xs, ys, h => by
    simp only [backVs] at h
    split at h
    · rename_i y h1
      split at h
      · rename_i zs h2
        simp only [Option.some.injEq] at h; subst h
        obtain ⟨l, hh⟩ := backVs_get h2
        refine ⟨by simp [l], fun j a b ha hb => ?_⟩
        cases j with
        | zero => simp only [List.getElem?_cons_zero, Option.some.injEq] at ha hb; subst ha; subst hb; exact h1
        | succ j => exact hh j a b (by simpa using ha) (by simpa using hb)
      · cases h
    · cases h

theorem backX_get {ks : List Nat} {nx d : Nat} {s0 : Nat → K} : ∀ {xs ys : List (List AV)}, backX ks nx s0 d xs = some ys → ys.length = xs.length ∧ ∀ (j : Nat) (y : List AV), ys[j]? = some y → ∃ x, xs[j]? = some x ∧ backVs ks nx s0 d x = some y
  | [], ys, h => by simp [backX] at h; subst h; simp
  | x :: xs, ys, h => by
    simp only [backX] at h
    split at h
    · rename_i y h1
      split at h
      · rename_i zs h2
        simp only [Option.some.injEq] at h; subst h
        obtain ⟨l, hh⟩ := backX_get h2
        refine ⟨by simp [l], fun j b hb => ?_⟩
        cases j with
        | zero => simp only [List.getElem?_cons_zero, Option.some.injEq] at hb; subst hb; exact ⟨x, rfl, h1⟩
        | succ j => simpa using hh j b (by simpa using hb)
      · cases h
    · cases h

theorem backC_shape {ks : List Nat} {nx d : Nat} {s0 : Nat → K} {x y : AV} (hy : backC ks nx s0 d x = some y) : vok y = vok x ∧ y.cells.length = x.cells.length ∧ ((∃ z, x = .p z ∧ y = .p z) ∨ (x.cells = [x] ∧ y.cells = [y])) := by
  cases x with
  | p x => simp only [backC, Option.some.injEq] at hy; subst hy; exact ⟨rfl, rfl, .inl ⟨x, rfl, rfl⟩⟩
  | e0 z => simp only [backC, Option.some.injEq] at hy; subst hy; exact ⟨rfl, rfl, .inr ⟨rfl, rfl⟩⟩
  | mp j ver i o =>
    simp only [backC] at hy
    split at hy
    · cases hy
    · split at hy
      · split at hy
        · simp only [Option.some.injEq] at hy; subst hy; exact ⟨rfl, rfl, .inr ⟨rfl, rfl⟩⟩
        · cases hy
      · split at hy
        · simp only [Option.some.injEq] at hy; subst hy; exact ⟨rfl, rfl, .inr ⟨rfl, rfl⟩⟩
        · cases hy
  | ms j ver o n z =>
    simp only [backC] at hy
    split at hy
    · cases hy
    · split at hy
      · split at hy
        · simp only [Option.some.injEq] at hy; subst hy; exact ⟨rfl, rfl, .inr ⟨rfl, rfl⟩⟩
        · cases hy
      · split at hy
        · simp only [Option.some.injEq] at hy; subst hy; exact ⟨rfl, rfl, .inr ⟨rfl, rfl⟩⟩
        · cases hy
  | _ => simp [backC] at hy

theorem back_turn {ks : List Nat} {nx d : Nat} {s0 : Nat → K} (hle : Fz.le g.fz g'.fz) (hz : ∀ k, (s k).1 = 0) (hk : ∀ j k, j < 50 → ks[j]? = some k → Hd g s g' s' (900 + j) k (s0 k).1)
    (hx : ∀ i, i < nx → Hd g s g' s' (950 + i) (xkey d i) ((s0 (xkey d i)).1 + 1)) {xs ys : List AV} (hy : backVs ks nx s0 d xs = some ys) : Turn g s g' s' xs ys := by
  obtain ⟨l, hh⟩ := backVs_get hy
  refine ⟨l, fun i el el' h1 h2 => ?_⟩
  have hb := hh i el el' h1 h2
  have one : ∀ {el el' : AV}, backC ks nx s0 d el = some el' → (vok el = true → vok el' = true) ∧ el'.cells.length = el.cells.length ∧ ∀ (j : Nat) (x x' : AV), el.cells[j]? = some x → el'.cells[j]? = some x' → ∀ v, RepC g s v x → RepC g' s' v x' := fun {el el'} hb => by
    obtain ⟨q1, q2, q3⟩ := backC_shape hb
    refine ⟨fun h => q1.trans h, q2, fun j x x' hx1 hx2 v hv => ?_⟩
    rcases q3 with ⟨z, rfl, rfl⟩ | ⟨q3, q4⟩
    · rw [hx1] at hx2
      obtain rfl : x = x' := by simpa using hx2
      rw [cells_p, List.getElem?_map] at hx1
      cases hcs : z.cells[j]? with
      | none => simp [hcs] at hx1
      | some u =>
        simp [hcs] at hx1; subst hx1
        exact RepP.mono hle hv
    · rw [q3] at hx1; rw [q4] at hx2
      cases j with
      | zero =>
        simp only [List.getElem?_cons_zero, Option.some.injEq] at hx1 hx2; subst hx1; subst hx2
        exact backC_rep hle hz hk hx hb hv
      | succ j => simp at hx1
  cases el with
  | ag cs =>
    simp only [backV] at hb
    split at hb
    · rename_i cs' hc
      simp only [Option.some.injEq] at hb; subst hb
      obtain ⟨l', hh'⟩ := backCs_get hc
      exact ⟨fun _ => rfl, l', fun j x x' hx1 hx2 v hv => backC_rep hle hz hk hx (hh' j x x' hx1 hx2) hv⟩
    · cases hb
  | p x => exact one (el := .p x) (by simpa only [backV, backC] using hb)
  | e0 z => exact one (el := .e0 z) hb
  | mp k v i o => exact one (el := .mp k v i o) hb
  | ms k v o n z => exact one (el := .ms k v o n z) hb
  | tu vs => simp [backV, backC] at hb
  | cl f a c => simp [backV, backC] at hb
  | un => simp [backV, backC] at hb

end
end Go.Proofs.YtjlebmnlphjjoaaGreatDoor.Abs
namespace Go.Proofs.YtjlebmnlphjjoaaGreatDoor.Abs

section
variable {P : Program} {w0 : World} {S : Nat → Prop} {fz0 : Fz} {g : G} {s : Nat → K} {w w' : World} {E : Env} {C : CFT} {d : Nat}

theorem RepTs.tv : ∀ {vs : List Value} {ps : List PV}, RepTs g.fz vs ps → RepTV g s vs (ps.map .p)
  | _, _, .nil => trivial
  | _, _, .cons v x vs xs h r => ⟨h, RepTs.tv r⟩

/-- Nothing of the old has turned. -/
theorem Inv.still (h : Inv w0 S fz0 g s w) (ha : Alike w w') (hs : w.heap.size ≤ w'.heap.size) (hold : ∀ b, b < w.heap.size → w'.heap[b]? = w.heap[b]?) : Inv w0 S fz0 g s w' := by
  refine ⟨ha.os.trans h.os, ha.tape.trans h.tape, ha.output.trans h.output, Nat.le_trans h.size hs, fun b hb hn => ?_, h.fzle, fun b o v hv => ?_, h.fznew, fun k els hk => ?_, h.own, h.apart⟩
  · rw [hold b (Nat.lt_of_lt_of_le hb h.size)]; exact h.old b hb hn
  · have hc := h.fzok b o v hv
    rw [cell_same (hold b (cell_lt hc))]; exact hc
  · rcases h.box k els hk with hx | ⟨p, hp, hx⟩
    · exact .inl hx
    · exact .inr ⟨p, hp, hx.mono (Ext.refl _ _) (hold _ hx.lt)⟩

/-- A callee that is handed no boxes. -/
theorem Inv.bare (h : Inv w0 S fz0 g s w) : Inv w (inPl { fz := g.fz, bk := fun _ => none } []) g.fz { fz := g.fz, bk := fun _ => none } (inS []) w := by
  have no : ∀ {k : Nat} {els : List AV}, (inS [] k).2 = some els → False := fun hk => by
    obtain ⟨j, b, _, h2, _⟩ := inS_some hk; simp at h2
  exact ⟨rfl, rfl, ⟨rfl, Nat.le_refl _⟩, Nat.le_refl _, fun _ _ _ => rfl, Fz.le_refl _, h.fzok, fun _ _ _ hv => .inl hv, fun k els hk => (no hk).elim, fun k els p hk => (no hk).elim, fun k k' els els' p p' hk => (no hk).elim⟩

open Classical in
/-- Where the boxes lie behind a call. -/
noncomputable def bkN (d nx : Nat) (g g' : G) : Nat → Option Pl := fun k => if h : ∃ i, i < nx ∧ k = xkey d i then g'.bk (950 + h.choose) else g.bk k

theorem bkN_x {nx i : Nat} {g' : G} (hi : i < nx) : bkN d nx g g' (xkey d i) = g'.bk (950 + i) := by
  unfold bkN
  have hex : ∃ j, j < nx ∧ xkey d i = xkey d j := ⟨i, hi, rfl⟩
  rw [dif_pos hex]
  have := xkey_inj hex.choose_spec.2
  rw [← this]

theorem bkN_o {nx k : Nat} {g' : G} (h : ∀ i, i < nx → k ≠ xkey d i) : bkN d nx g g' k = g.bk k := by
  unfold bkN
  rw [dif_neg]
  rintro ⟨i, hi, he⟩
  exact h i hi he

theorem atom_rep {fz fz' : Fz} {v : Value} {x : PV} (ha : isAtom x = true) (h : RepP fz v x) : RepP fz' v x := by
  cases x with
  | int k n => cases h; exact .int k n
  | bool b => cases h; exact .bool b
  | str b => cases h; exact .str b
  | _ => simp [isAtom] at ha

/-- Behind a call that was handed no boxes. F: what is laid down for it. -/
theorem after_pure {F : Fz} (ks : List Nat) (e1 : Ext g s { g with fz := F } (fun k => if k ∈ ks then ((s k).1, none) else s k)) (h1 : Inv w0 S fz0 { g with fz := F } (fun k => if k ∈ ks then ((s k).1, none) else s k) w)
    {o : Out} {r : AV} {xs : List (List AV)} {v : Value} {g' : G} {SI : Nat → Prop} (hSI : ∀ b, ¬ SI b) (hI : Inv w SI F g' (outS o) w') (hrep : RepA g' (outS o) v o.r) (hb : back [] o.x.length s d o.r = some r) (hbx : backX [] o.x.length s d o.x = some xs) :
    ∃ g2, RepA g2 (updAll s (kill s ks ++ newBlocks s d 0 xs)) v r ∧ Inv w0 S fz0 g2 (updAll s (kill s ks ++ newBlocks s d 0 xs)) w' ∧ Ext g s g2 (updAll s (kill s ks ++ newBlocks s d 0 xs)) := by
  obtain ⟨hxl, hxg⟩ := backX_get hbx
  have spec : ∀ k, (∃ (i : Nat) (b : List AV), xs[i]? = some b ∧ k = xkey d i ∧ updAll s (Abs.kill s ks ++ newBlocks s d 0 xs) k = ((s k).1 + 1, some b)) ∨
      ((∀ i, i < o.x.length → k ≠ xkey d i) ∧ updAll s (Abs.kill s ks ++ newBlocks s d 0 xs) k = if k ∈ ks then ((s k).1 + 1, none) else s k) := fun k => by
    rw [updAll_append]
    rcases updAll_new s d xs 0 (updAll s (Abs.kill s ks)) k with ⟨i, b, q1, q2, q3⟩ | ⟨q1, q2⟩
    · exact .inl ⟨i, b, q1, by simpa using q2, q3⟩
    · exact .inr ⟨fun i hi => by simpa using q1 i (by rw [hxl]; exact hi), by rw [q2, updAll_kill]⟩
  generalize updAll s (Abs.kill s ks ++ newBlocks s d 0 xs) = sN at spec
  have lt : ∀ {i : Nat} {b : List AV}, xs[i]? = some b → i < o.x.length := fun hi => by rw [← hxl]; exact (List.getElem?_eq_some_iff.1 hi).1
  have eN : Ext { g with fz := F } (fun k => if k ∈ ks then ((s k).1, none) else s k) { fz := g'.fz, bk := bkN d o.x.length g g' } sN := by
    have v1 : ∀ k, (if k ∈ ks then ((s k).1, (none : Option (List AV))) else s k).1 = (s k).1 := fun k => by split <;> rfl
    refine ⟨hI.fzle, fun k => ?_, fun k hk => ?_, fun k els' hk he => ?_⟩
    · show (if k ∈ ks then ((s k).1, (none : Option (List AV))) else s k).1 ≤ _
      rw [v1]
      rcases spec k with ⟨i, b, _, _, q⟩ | ⟨_, q⟩
      · rw [q]; simp
      · rw [q]; split <;> simp
    · have hk' : (sN k).1 = (s k).1 := hk.trans (v1 k)
      rcases spec k with ⟨i, b, _, _, q⟩ | ⟨q1, q⟩
      · rw [q] at hk'; simp at hk'
      · exact bkN_o q1
    · have hk' : (sN k).1 = (s k).1 := hk.trans (v1 k)
      rcases spec k with ⟨i, b, _, _, q⟩ | ⟨q1, q⟩
      · rw [q] at hk'; simp at hk'
      · rw [q] at he
        split at he
        · cases he
        · rename_i hn
          exact ⟨els', by simp [hn, he], rfl⟩
  have hk0 : ∀ (j k : Nat), j < 50 → ([] : List Nat)[j]? = some k → Hd g' (outS o) { fz := g'.fz, bk := bkN d o.x.length g g' } sN (900 + j) k (s k).1 := fun j k _ hjk => by simp at hjk
  have hx0 : ∀ i, i < o.x.length → Hd g' (outS o) { fz := g'.fz, bk := bkN d o.x.length g g' } sN (950 + i) (xkey d i) ((s (xkey d i)).1 + 1) := fun i hi => by
    rcases spec (xkey d i) with ⟨i', b, q1, q2, q3⟩ | ⟨q1, _⟩
    · have := xkey_inj q2; subst this
      refine ⟨by rw [q3]; exact Nat.le_refl _, fun _ => ⟨bkN_x hi, fun els hels => ?_⟩⟩
      rw [q3] at hels
      obtain ⟨x, p1, p2⟩ := hxg i b q1
      obtain rfl : b = els := by simpa using hels
      exact ⟨x, by rw [outS_x p1], (backVs_get p2).1.symm⟩
    · exact absurd rfl (q1 i hi)
  refine ⟨{ fz := g'.fz, bk := bkN d o.x.length g g' }, ?_, ?_, e1.trans eN⟩
  · exact back_rep (g := g') (s := outS o) (g' := { fz := g'.fz, bk := bkN d o.x.length g g' }) (s' := sN) (Fz.le_refl _) (outS_ver o) hk0 hx0 hb hrep
  · refine h1.leave [] (fun b hb => absurd hb (hSI b)) hI rfl eN (fun k k' => ∃ i, k = xkey d i ∧ k' = 950 + i) (fun k1 k2 k' h1 h2 => ?_) fun k els hk => ?_
    · obtain ⟨i1, rfl, q1⟩ := h1
      obtain ⟨i2, rfl, q2⟩ := h2
      have : i1 = i2 := by omega
      rw [this]
    · rcases spec k with ⟨i, b, q1, rfl, q3⟩ | ⟨q1, q⟩
      · rw [q3] at hk
        obtain rfl : b = els := by simpa using hk
        obtain ⟨x, p1, p2⟩ := hxg i b q1
        exact .inr ⟨950 + i, x, ⟨i, rfl, rfl⟩, by rw [outS_x p1], bkN_x (lt q1), back_turn (g := g') (s := outS o) (g' := { fz := g'.fz, bk := bkN d o.x.length g g' }) (s' := sN) (Fz.le_refl _) (outS_ver o) hk0 hx0 p2⟩
      · rw [q] at hk
        split at hk
        · cases hk
        · rename_i hn
          exact .inl ⟨by simp [hn, hk], bkN_o q1, by simp⟩

/-- A call that lays its arguments down. -/
theorem call_pure (hC : CSound P C) (h : Inv w0 S fz0 g s w) {f : FuncId} {as : List AV} {sh : List Shape} {ps : List PV} {o : Out} {r : AV} {xs : List (List AV)} {vs : List Value} (hr : RepTV g s vs as)
    (hps : freezes s sh as = some ps) (ho : C f (ps.map .p) [] = some o) (hb : back [] o.x.length s d o.r = some r) (hbx : backX [] o.x.length s d o.x = some xs) :
    (∀ w', (callFunc (f % 10000) vs.toArray).run P w' = .ok (.enter (f % 10000) vs.toArray) w') ∧ Calls P (f % 10000) vs.toArray w fun e w' => ∃ v g', e = .returned v ∧ RepA g' (updAll s (kill s (as.flatMap keysV) ++ newBlocks s d 0 xs)) v r ∧
      Inv w0 S fz0 g' (updAll s (kill s (as.flatMap keysV) ++ newBlocks s d 0 xs)) w' ∧ Ext g s g' (updAll s (kill s (as.flatMap keysV) ++ newBlocks s d 0 xs)) := by
  generalize hks : as.flatMap keysV = ks
  have hfr := freezes_rep h (fzOf_le h ks) sh (fun k hk => fzOf_frozen ks k (hks ▸ hk)) hr hps
  have e1 : Ext g s { g with fz := fzOf g s w ks } (fun k => if k ∈ ks then ((s k).1, none) else s k) := by
    refine ⟨fzOf_le h ks, fun k => ?_, fun _ _ => rfl, fun k els' _ he => ?_⟩
    · show (s k).1 ≤ (if k ∈ ks then ((s k).1, none) else s k).1
      split <;> exact Nat.le_refl _
    · have he' : (if k ∈ ks then ((s k).1, none) else s k).2 = some els' := he
      split at he'
      · cases he'
      · exact ⟨els', he', rfl⟩
  have h1 := h.hush ks (fun k => if k ∈ ks then ((s k).1, none) else s k) (fun k => by
    show (if k ∈ ks then ((s k).1, none) else s k).2 = _
    split <;> rfl) e1
  obtain ⟨hf, hcalls⟩ := hC f _ _ _ ho (by simp) w _ vs h1.bare hfr.tv
  refine ⟨hf, hcalls.mono fun e w' he => ?_⟩
  obtain ⟨v, rfl, g', hI, hbl, _, hrep⟩ := he
  obtain ⟨g2, q1, q2, q3⟩ := after_pure ks e1 h1 (fun b hb => by obtain ⟨j, p, hj, _⟩ := hb; simp at hj) hI hrep hb hbx
  exact ⟨v, g2, rfl, q1, q2, q3⟩

/-- A call that only looks. -/
theorem call_borrow (hC : CSound P C) (h : Inv w0 S fz0 g s w) {f : FuncId} {as : List AV} {sh : List Shape} {ps : List PV} {o : Out} {vs : List Value} (hr : RepTV g s vs as)
    (hps : freezesX s sh as = some ps) (ho : C f (ps.map .p) [] = some o) :
    (∀ w', (callFunc (f % 10000) vs.toArray).run P w' = .ok (.enter (f % 10000) vs.toArray) w') ∧ Calls P (f % 10000) vs.toArray w fun e w' => ∃ v, e = .returned v ∧
      (∀ x, o.r = .p x → isAtom x = true → ∃ g', RepA g' s v (.p x) ∧ Inv w0 S fz0 g' s w' ∧ Ext g s g' s) ∧
      (flatA o.r = true → (o.x.all fun b => b.all flatV) = true → ∀ r xs, back [] o.x.length s d o.r = some r → backX [] o.x.length s d o.x = some xs → ∃ g', RepA g' (updAll s (newBlocks s d 0 xs)) v r ∧ Inv w0 S fz0 g' (updAll s (newBlocks s d 0 xs)) w' ∧ Ext g s g' (updAll s (newBlocks s d 0 xs))) := by
  generalize hks : as.flatMap (keysD s) = ks
  have hfr := freezesX_rep h (fzOf_le h ks) sh (fun k hk => fzOf_frozen ks k (hks ▸ hk)) hr hps
  obtain ⟨hf, hcalls⟩ := hC f _ _ _ ho (by simp) w _ vs (h.kill ks).1.bare hfr.tv
  refine ⟨hf, hcalls.mono fun e w' he => ?_⟩
  obtain ⟨v, rfl, g', hI, hbl, _, hrep⟩ := he
  have noS : ∀ b, ¬ inPl { fz := fzOf g s w ks, bk := fun _ => none } [] b := fun b hb => by obtain ⟨j, p, hj, _⟩ := hb; simp at hj
  refine ⟨v, rfl, fun x hx ha => ?_, fun hfl hflx r xs hb hbx => ?_⟩
  · rw [hx] at hrep
    exact ⟨g, atom_rep ha hrep, h.still ⟨hI.os, hI.tape, hI.output⟩ hI.size (fun b hb => hI.old b hb (noS b)), Ext.refl _ _⟩
  · have hI' : Inv w (inPl { fz := fzOf g s w ks, bk := fun _ => none } []) g.fz { g' with fz := g.fz } (outS o) w' := by
      refine ⟨hI.os, hI.tape, hI.output, hI.size, hI.old, Fz.le_refl _, fun b o v hv => ?_, fun _ _ _ hv => .inl hv, fun k els hk => ?_, fun k els p hk hp => ?_, hI.apart⟩
      · have hc := h.fzok b o v hv
        rw [cell_same (hI.old b (cell_lt hc) (noS b))]; exact hc
      · rcases hI.box k els hk with hx | ⟨p, hp, hx⟩
        · exact .inl hx
        · refine .inr ⟨p, hp, hx.turn (Turn.flat ?_) rfl⟩
          rcases outS_some hk with ⟨j, b, _, _, hb0, rfl⟩ | ⟨j, b, _, hb1, rfl⟩
          · have hl := (List.getElem?_eq_some_iff.1 hb0).1
            rw [hbl] at hl; simp at hl
          · exact List.all_eq_true.1 hflx _ (List.mem_of_getElem? hb1)
      · obtain ⟨q1, q2⟩ := hI.own k els p hk hp
        refine ⟨q1, fun o => ?_⟩
        rcases q1 with q | q
        · show g.fz p.b o = none
          cases hf : g.fz p.b o with
          | none => rfl
          | some v => exact absurd (cell_lt (h.fzok _ _ _ hf)) (by omega)
        · exact absurd q (noS _)
    have e1 : Ext g s { g with fz := g.fz } (fun k => if k ∈ ([] : List Nat) then ((s k).1, none) else s k) := by simpa using Ext.refl g s
    have h1 : Inv w0 S fz0 { g with fz := g.fz } (fun k => if k ∈ ([] : List Nat) then ((s k).1, none) else s k) w := by simpa using h
    obtain ⟨g2, q1, q2, q3⟩ := after_pure [] e1 h1 noS hI' (flatA_rep hfl hrep) hb hbx
    exact ⟨g2, q1, q2, q3⟩

/-- A call that writes in boxes. -/
theorem call_mu (hC : CSound P C) (h : Inv w0 S fz0 g s w) {f : FuncId} {as as' : List AV} {sh : List Shape} {bs : List (List PV)} {o : Out} {r : AV} {xs : List (List AV)} {vs : List Value} {ks : List Nat} (hr : RepTV g s vs as) (hn : ks.Nodup) (hl : ks.length ≤ 50)
    (hps : hands ks s sh as = some as') (hbs : blocksOf s ks = some bs) (ho : C f as' bs = some o) (hb : back ks o.x.length s d o.r = some r) (hbx : backX ks o.x.length s d o.x = some xs) :
    (∀ w', (callFunc (f % 10000) vs.toArray).run P w' = .ok (.enter (f % 10000) vs.toArray) w') ∧ Calls P (f % 10000) vs.toArray w fun e w' => ∃ v g', e = .returned v ∧ RepA g' (updAll s (putBlocks s ks o.b ++ newBlocks s d 0 xs)) v r ∧
      Inv w0 S fz0 g' (updAll s (putBlocks s ks o.b ++ newBlocks s d 0 xs)) w' ∧ Ext g s g' (updAll s (putBlocks s ks o.b ++ newBlocks s d 0 xs)) := by
  obtain ⟨hbl, hbk⟩ := blocksOf_get hbs
  obtain ⟨hxl, hxg⟩ := backX_get hbx
  have kat : ∀ {j : Nat} {b : List PV}, bs[j]? = some b → ∃ k, ks[j]? = some k ∧ (s k).2 = some (b.map .p) := fun {j b} hj => by
    have hlt : j < ks.length := by rw [← hbl]; exact (List.getElem?_eq_some_iff.1 hj).1
    obtain ⟨ps, q1, q2⟩ := hbk j ks[j] (List.getElem?_eq_getElem hlt)
    rw [hj] at q1; cases q1
    exact ⟨ks[j], List.getElem?_eq_getElem hlt, q2⟩
  have kinj : ∀ {i j k : Nat}, ks[i]? = some k → ks[j]? = some k → i = j := fun {i j k} h1 h2 => by
    have e1 := posOf_at hn h1; have e2 := posOf_at hn h2
    rw [e1] at e2; simpa using e2
  -- the callee's ghost
  have hin : ∃ gi : G, gi.fz = g.fz ∧ ∀ j, gi.bk (900 + j) = (ks[j]?).bind g.bk := ⟨{ fz := g.fz, bk := fun k => (ks[k - 900]?).bind g.bk }, rfl, fun j => by
    show (ks[900 + j - 900]?).bind g.bk = _
    have : 900 + j - 900 = j := by omega
    rw [this]⟩
  obtain ⟨gi, gf, gb⟩ := hin
  have gat : ∀ {j k : Nat}, ks[j]? = some k → gi.bk (900 + j) = g.bk k := fun {j k} hj => by rw [gb, hj]; rfl
  have hI0 : Inv w (inPl gi bs) gi.fz gi (inS bs) w := by
    have look : ∀ {k : Nat} {els : List AV}, (inS bs k).2 = some els → ∃ (j : Nat) (b : List PV) (k0 : Nat), k = 900 + j ∧ bs[j]? = some b ∧ els = b.map .p ∧ ks[j]? = some k0 ∧ (s k0).2 = some (b.map .p) := fun hk => by
      obtain ⟨j, b, q1, q2, q3⟩ := inS_some hk
      obtain ⟨k0, q4, q5⟩ := kat q2
      exact ⟨j, b, k0, q1, q2, q3, q4, q5⟩
    refine ⟨rfl, rfl, ⟨rfl, Nat.le_refl _⟩, Nat.le_refl _, fun _ _ _ => rfl, Fz.le_refl _, by rw [gf]; exact h.fzok, fun _ _ _ hv => .inl hv, fun k els hk => ?_, fun k els p hk hp => ?_, fun k k' els els' p p' hk hk' hp hp' hne => ?_⟩
    · obtain ⟨j, b, k0, rfl, q2, rfl, q4, q5⟩ := look hk
      rcases h.box k0 _ q5 with ⟨hx, hy⟩ | ⟨p, hp, hx⟩
      · exact .inl ⟨hx, (gat q4).trans hy⟩
      · exact .inr ⟨p, (gat q4).trans hp, hx.plain (by rw [gf]; exact Fz.le_refl _) rfl⟩
    · obtain ⟨j, b, k0, rfl, q2, rfl, q4, q5⟩ := look hk
      refine ⟨.inr ⟨j, p, (List.getElem?_eq_some_iff.1 q2).1, hp, rfl⟩, fun o => ?_⟩
      rw [gf]; exact (h.own k0 _ p q5 ((gat q4).symm.trans hp)).2 o
    · obtain ⟨j, b, k0, rfl, q2, rfl, q4, q5⟩ := look hk
      obtain ⟨j', b', k0', rfl, q2', rfl, q4', q5'⟩ := look hk'
      refine h.apart k0 k0' _ _ p p' q5 q5' ((gat q4).symm.trans hp) ((gat q4').symm.trans hp') fun e => ?_
      subst e
      exact hne (by rw [kinj q4 q4'])
  have hargs : RepTV gi (inS bs) vs as' := hands_rep (by rw [gf]; exact Fz.le_refl _) (fun j k hj => by
    obtain ⟨ps, q1, q2⟩ := hbk j k hj
    refine ⟨Nat.zero_le _, fun _ => ⟨gat hj, fun els hels => ⟨_, q2, ?_⟩⟩⟩
    rw [inS_at q1] at hels
    have : ps.map .p = els := by simpa using hels
    rw [← this]) sh hps hr
  obtain ⟨hf, hcalls⟩ := hC f _ _ _ ho (by rw [hbl]; exact hl) w gi vs hI0 hargs
  refine ⟨hf, hcalls.mono fun e w' he => ?_⟩
  obtain ⟨v, rfl, g', hI, hobl, hplace, hrep⟩ := he
  rw [gf] at hI
  have spec : ∀ k, (∃ (i : Nat) (b : List AV), xs[i]? = some b ∧ k = xkey d i ∧ updAll s (putBlocks s ks o.b ++ newBlocks s d 0 xs) k = ((s k).1 + 1, some b)) ∨
      ((∀ i, i < o.x.length → k ≠ xkey d i) ∧ ∃ (j : Nat) (b : List PV), ks[j]? = some k ∧ o.b[j]? = some b ∧ updAll s (putBlocks s ks o.b ++ newBlocks s d 0 xs) k = ((s k).1, some (b.map .p))) ∨
      ((∀ i, i < o.x.length → k ≠ xkey d i) ∧ k ∉ ks ∧ updAll s (putBlocks s ks o.b ++ newBlocks s d 0 xs) k = s k) := fun k => by
    rw [updAll_append]
    rcases updAll_new s d xs 0 (updAll s (putBlocks s ks o.b)) k with ⟨i, b, q1, q2, q3⟩ | ⟨q1, q2⟩
    · exact .inl ⟨i, b, q1, by simpa using q2, q3⟩
    · rcases updAll_put s ks o.b s k hn with ⟨j, b, p1, p2, p3⟩ | ⟨p1, p2⟩
      · exact .inr (.inl ⟨fun i hi => by simpa using q1 i (by rw [hxl]; exact hi), j, b, p1, p2, by rw [q2, p3]⟩)
      · refine .inr (.inr ⟨fun i hi => by simpa using q1 i (by rw [hxl]; exact hi), fun hm => ?_, by rw [q2, p2]⟩)
        obtain ⟨j, hj⟩ := List.getElem?_of_mem hm
        have hlt : j < o.b.length := by rw [hobl, hbl]; exact (List.getElem?_eq_some_iff.1 hj).1
        exact p1 j _ hj (List.getElem?_eq_getElem hlt)
  generalize updAll s (putBlocks s ks o.b ++ newBlocks s d 0 xs) = sN at spec
  have lt : ∀ {i : Nat} {b : List AV}, xs[i]? = some b → i < o.x.length := fun hi => by rw [← hxl]; exact (List.getElem?_eq_some_iff.1 hi).1
  have j50 : ∀ {j k : Nat}, ks[j]? = some k → j < 50 := fun hj => Nat.lt_of_lt_of_le (List.getElem?_eq_some_iff.1 hj).1 hl
  have eN : Ext g s { fz := g'.fz, bk := bkN d o.x.length g g' } sN := by
    refine ⟨by rw [← gf] at hI ⊢; exact hI.fzle, fun k => ?_, fun k hk => ?_, fun k els' hk he => ?_⟩
    · rcases spec k with ⟨i, b, _, _, q⟩ | ⟨_, j, b, _, _, q⟩ | ⟨_, _, q⟩ <;> rw [q] <;> simp
    · rcases spec k with ⟨i, b, _, _, q⟩ | ⟨q1, _⟩ | ⟨q1, _⟩
      · rw [q] at hk; simp at hk
      · exact bkN_o q1
      · exact bkN_o q1
    · rcases spec k with ⟨i, b, _, _, q⟩ | ⟨q1, j, b, q2, q3, q⟩ | ⟨q1, _, q⟩
      · rw [q] at hk; simp at hk
      · obtain ⟨ps, p1, p2⟩ := hbk j k q2
        rw [q] at he
        have he' : b.map .p = els' := by simpa using he
        refine ⟨_, p2, ?_⟩
        rw [← he']
        simp [(hplace j ps b p1 q3).2]
      · exact ⟨els', by rw [← q]; exact he, rfl⟩
  have hk0 : ∀ (j k : Nat), j < 50 → ks[j]? = some k → Hd g' (outS o) { fz := g'.fz, bk := bkN d o.x.length g g' } sN (900 + j) k (s k).1 := fun j k hj hjk => by
    refine ⟨eN.ver k, fun hv => ?_⟩
    rcases spec k with ⟨i, b, _, _, q⟩ | ⟨q1, j', b, q2, q3, q⟩ | ⟨q1, q2, _⟩
    · rw [q] at hv; simp at hv
    · have := kinj hjk q2; subst this
      obtain ⟨ps, p1, p2⟩ := hbk j k q2
      refine ⟨(bkN_o q1).trans ((gat q2).symm.trans (hplace j ps b p1 q3).1.symm), fun els hels => ⟨els, ?_, rfl⟩⟩
      rw [q] at hels
      rw [outS_b hj q3]; exact hels
    · exact absurd (List.mem_of_getElem? hjk) q2
  have hx0 : ∀ i, i < o.x.length → Hd g' (outS o) { fz := g'.fz, bk := bkN d o.x.length g g' } sN (950 + i) (xkey d i) ((s (xkey d i)).1 + 1) := fun i hi => by
    rcases spec (xkey d i) with ⟨i', b, q1, q2, q3⟩ | ⟨q1, _⟩ | ⟨q1, _⟩
    · have := xkey_inj q2; subst this
      refine ⟨by rw [q3]; exact Nat.le_refl _, fun _ => ⟨bkN_x hi, fun els hels => ?_⟩⟩
      rw [q3] at hels
      obtain ⟨x, p1, p2⟩ := hxg i b q1
      obtain rfl : b = els := by simpa using hels
      exact ⟨x, by rw [outS_x p1], (backVs_get p2).1.symm⟩
    · exact absurd rfl (q1 i hi)
    · exact absurd rfl (q1 i hi)
  refine ⟨v, { fz := g'.fz, bk := bkN d o.x.length g g' }, rfl, back_rep (g := g') (s := outS o) (g' := { fz := g'.fz, bk := bkN d o.x.length g g' }) (s' := sN) (Fz.le_refl _) (outS_ver o) hk0 hx0 hb hrep, ?_, eN⟩
  · refine h.leave ks (fun b hb => ?_) hI rfl eN (fun k k' => (∃ i, k = xkey d i ∧ k' = 950 + i) ∨ ∃ j, j < 50 ∧ ks[j]? = some k ∧ k' = 900 + j) (fun k1 k2 k' h1 h2 => ?_) fun k els hk => ?_
    · obtain ⟨j, p, hj, hp, hpb⟩ := hb
      obtain ⟨k0, q1, q2⟩ := kat (List.getElem?_eq_getElem hj)
      exact ⟨k0, _, p, List.mem_of_getElem? q1, q2, (gat q1).symm.trans hp, hpb⟩
    · rcases h1 with ⟨i1, rfl, q1⟩ | ⟨j1, l1, p1, q1⟩ <;> rcases h2 with ⟨i2, rfl, q2⟩ | ⟨j2, l2, p2, q2⟩
      · have : i1 = i2 := by omega
        rw [this]
      · omega
      · omega
      · have : j1 = j2 := by omega
        subst this
        rw [p1] at p2; simpa using p2
    · rcases spec k with ⟨i, b, q1, rfl, q3⟩ | ⟨q1, j, b, q2, q3, q⟩ | ⟨q1, q2, q⟩
      · rw [q3] at hk
        obtain rfl : b = els := by simpa using hk
        obtain ⟨x, p1, p2⟩ := hxg i b q1
        exact .inr ⟨950 + i, x, .inl ⟨i, rfl, rfl⟩, by rw [outS_x p1], bkN_x (lt q1), back_turn (g := g') (s := outS o) (g' := { fz := g'.fz, bk := bkN d o.x.length g g' }) (s' := sN) (Fz.le_refl _) (outS_ver o) hk0 hx0 p2⟩
      · rw [q] at hk
        have hk' : els = b.map .p := by simpa using hk.symm
        obtain ⟨ps, p1, p2⟩ := hbk j k q2
        exact .inr ⟨900 + j, els, .inr ⟨j, j50 q2, q2, rfl⟩, by rw [outS_b (j50 q2) q3, hk'], (bkN_o q1).trans ((gat q2).symm.trans (hplace j ps b p1 q3).1.symm), by rw [hk']; exact Turn.plain (g := g') (g' := { fz := g'.fz, bk := bkN d o.x.length g g' }) (Fz.le_refl _) b⟩
      · rw [q] at hk
        exact .inl ⟨hk, bkN_o q1, q2⟩

theorem doCall_sound (hC : CSound P C) (h : Inv w0 S fz0 g s w) {f : FuncId} {as : List AV} {sh : List Shape} {x : AV} {us : List (Nat × K)} {vs : List Value} (hr : RepTV g s vs as) (hs : doCall E C s d f as sh = some (x, us)) :
    (∀ w', (callFunc (f % 10000) vs.toArray).run P w' = .ok (.enter (f % 10000) vs.toArray) w') ∧ Calls P (f % 10000) vs.toArray w fun e w' => ∃ v g', e = .returned v ∧ RepA g' (updAll s us) v x ∧ Inv w0 S fz0 g' (updAll s us) w' ∧ Ext g s g' (updAll s us) := by
  unfold doCall at hs
  split at hs
  · split at hs
    · cases hs
    · rename_i ps hps
      obtain ⟨o, ho, hs⟩ := Option.bind_eq_some_iff.1 hs
      split at hs
      · cases hs
      · split at hs
        · rename_i r hr'
          split at hs
          · rename_i xs hxs
            simp only [Option.some.injEq, Prod.mk.injEq] at hs; obtain ⟨rfl, rfl⟩ := hs
            exact call_pure hC h hr hps ho hr' hxs
          · cases hs
        · cases hs
  · split at hs
    · cases hs
    · rename_i ps hps
      obtain ⟨o, ho, hs⟩ := Option.bind_eq_some_iff.1 hs
      obtain ⟨hf, hcalls⟩ := call_borrow (d := d) hC h hr hps ho
      refine ⟨hf, hcalls.mono fun e w' he => ?_⟩
      obtain ⟨v, rfl, k1, k2⟩ := he
      split at hs
      · rename_i ha
        simp only [Option.some.injEq, Prod.mk.injEq] at hs; obtain ⟨rfl, rfl⟩ := hs
        generalize hor : o.r = y at ha k1
        cases y with
        | p x =>
          obtain ⟨g', q1, q2, q3⟩ := k1 x rfl ha
          exact ⟨v, g', rfl, q1, q2, q3⟩
        | _ => simp [atomA] at ha
      · split at hs
        · cases hs
        · rename_i hc
          simp only [not_or, Bool.not_eq_false] at hc
          split at hs
          · rename_i r hr'
            split at hs
            · rename_i xs hxs
              simp only [Option.some.injEq, Prod.mk.injEq] at hs; obtain ⟨rfl, rfl⟩ := hs
              obtain ⟨g', q1, q2, q3⟩ := k2 hc.2.1 hc.2.2 r xs hr' hxs
              exact ⟨v, g', rfl, q1, q2, q3⟩
            · cases hs
          · cases hs
  · dsimp only at hs
    split at hs
    · cases hs
    · rename_i hl
      split at hs
      · cases hs
      · rename_i as' has
        split at hs
        · cases hs
        · rename_i bs hbs
          obtain ⟨o, ho, hs⟩ := Option.bind_eq_some_iff.1 hs
          split at hs
          · cases hs
          · split at hs
            · rename_i r hr'
              split at hs
              · rename_i xs hxs
                simp only [Option.some.injEq, Prod.mk.injEq] at hs; obtain ⟨rfl, rfl⟩ := hs
                exact call_mu hC h hr ((dedup_nodup _).filter _) (by omega) has hbs ho hr' hxs
              · cases hs
            · cases hs

end
end Go.Proofs.YtjlebmnlphjjoaaGreatDoor.Abs
