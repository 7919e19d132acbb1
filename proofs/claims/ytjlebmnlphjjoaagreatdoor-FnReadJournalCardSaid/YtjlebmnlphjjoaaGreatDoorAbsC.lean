import Derived.Test.YtjlebmnlphjjoaaGreatDoorAbsB
import Derived.Orders
import Derived.LoopN
set_option linter.unusedVariables false
set_option linter.unusedSimpArgs false
namespace Go.Proofs.YtjlebmnlphjjoaaGreatDoor.Abs

/-- The boxes that were handed over lie where they lay, as long as they are. -/
def Home (hb : Nat → Option Pl) (hl : Nat → Nat) (g : G) (s : Nat → K) : Prop :=
  ∀ k, 900 ≤ k → k < 950 → (s k).1 = 0 → ∀ els, (s k).2 = some els → g.bk k = hb k ∧ els.length = hl k

theorem Home.mono {hb : Nat → Option Pl} {hl : Nat → Nat} {g g' : G} {s s' : Nat → K} (h : Home hb hl g s) (e : Ext g s g' s') : Home hb hl g' s' := by
  intro k h1 h2 hv els hels
  have h3 := e.ver k
  have hv' : (s k).1 = 0 := by omega
  have hvv : (s' k).1 = (s k).1 := by omega
  obtain ⟨els0, q1, q2⟩ := e.len k els hvv hels
  obtain ⟨p1, p2⟩ := h k h1 h2 hv' els0 q1
  exact ⟨(e.bk k hvv).trans p1, q2.symm.trans p2⟩

structure Ctx where
  nt : Nat
  w0 : World
  S : Nat → Prop
  fz0 : Fz
  hb : Nat → Option Pl
  hl : Nat → Nat

/-- A frame and what it stands for. -/
def Rel (X : Ctx) (fr : Fr) (a : Act) (w : World) : Prop :=
  ∃ g, a.defers = [] ∧ a.tmps.size = X.nt ∧ (∀ i, RepA g fr.s (a.tmps.getD i undef) (fr.t i)) ∧ Inv X.w0 X.S X.fz0 g fr.s w ∧ Home X.hb X.hl g fr.s

section
variable {P : Program} {X : Ctx} {E : Env} {C : CFT} {g : G} {s : Nat → K} {a : Act} {w w' : World} {fr fr' : Fr}

theorem ORel.of {t : Nat → AV} (h : ∀ i, RepA g s (a.tmps.getD i undef) (t i)) : ORel g s a.eval (gv t) := by
  intro o
  cases o with
  | tmp t => exact h t
  | const v =>
    simp only [cOpd]
    cases hv : pvOf v with
    | none => trivial
    | some x => exact (pvOf_rep (fz := g.fz) hv).1
  | global _ => trivial
  | func f =>
    simp only [cOpd]
    split
    · rename_i hf
      have := RepP.fn (fz := g.fz) f [] [] [] [] .nil .nil
      rw [Nat.mod_eq_of_lt hf] at this
      exact this
    · trivial

theorem getD_put (a : Act) (dst : Option Nat) (v : Value) (i : Nat) (h : ∀ d, dst = some d → d < a.tmps.size) : (a.put dst v).tmps.getD i undef = if dst = some i then v else a.tmps.getD i undef := by
  cases dst with
  | none => simp [Act.put]
  | some d =>
    have hd := h d rfl
    simp only [Act.put, Option.some.injEq]
    by_cases e : d = i
    · subst e; simp [hd]
    · simp [e, Array.getElem?_setIfInBounds_ne e]

theorem put_t (fr : Fr) (dst : Option Nat) (x : AV) (i : Nat) : (fr.put dst x).t i = if dst = some i then x else fr.t i := by
  cases dst with
  | none => simp [Fr.put]
  | some d =>
    simp only [Fr.put, upd, Option.some.injEq]
    by_cases e : d = i
    · subst e; simp
    · have : ¬ i = d := fun h => e h.symm
      simp [e, this]

theorem Rel.put {dst : Option Nat} {v : Value} {x : AV} {us : List (Nat × K)} {g' : G} (hd : a.defers = []) (hn : a.tmps.size = X.nt) (ht : ∀ i, RepA g s (a.tmps.getD i undef) (fr.t i)) (hH : Home X.hb X.hl g s)
    (hx : RepA g' (updAll s us) v x) (hI : Inv X.w0 X.S X.fz0 g' (updAll s us) w') (hE : Ext g s g' (updAll s us)) (hdst : ∀ d, dst = some d → d < X.nt) : Rel X { t := (fr.put dst x).t, s := updAll s us } (a.put dst v) w' := by
  refine ⟨g', by cases dst <;> simpa [Act.put] using hd, by cases dst <;> simp [Act.put, hn], fun i => ?_, hI, hH.mono hE⟩
  rw [getD_put _ _ _ _ (fun d h => by rw [hn]; exact hdst d h)]
  show RepA g' (updAll s us) _ ((fr.put dst x).t i)
  rw [put_t]
  split
  · exact hx
  · exact (ht i).mono hE

/-- What may stand for nothing. -/
theorem Rel.drop {dst : Option Nat} (h : Rel X fr a w) : Rel X (fr.put dst (.p (.tup []))) (a.put dst undef) w := by
  obtain ⟨g, hd, hn, ht, hI, hH⟩ := h
  have hs : (fr.put dst (.p (.tup []))).s = fr.s := by cases dst <;> rfl
  refine ⟨g, by cases dst <;> simpa [Act.put] using hd, by cases dst <;> simp [Act.put, hn], fun i => ?_, by rw [hs]; exact hI, by rw [hs]; exact hH⟩
  rw [put_t, hs]
  split
  · rename_i he
    subst he
    have : (a.put (some i) undef).tmps.getD i undef = undef := by
      by_cases hi : i < a.tmps.size <;> simp [Act.put, hi]
    rw [this]
    exact RepP.tup [] [] .nil
  · rename_i hne
    have : (a.put dst undef).tmps.getD i undef = a.tmps.getD i undef := by
      cases dst with
      | none => rfl
      | some d =>
        have e : d ≠ i := fun e => hne (by rw [e])
        simp [Act.put, Array.getElem?_setIfInBounds_ne e]
    rw [this]; exact ht i

theorem wanted_eq {ann : Ann} {ops : Array Oper} {o : Oper} (h : Rel X fr a w) {b : Bool} (hw : wanted (cOper P X.nt ann ops o) fr.t = some b) : Region.wanted o (yielded ops a.tmps) = b := by
  obtain ⟨g, hd, hn, ht, hI, hH⟩ := h
  unfold wanted at hw
  unfold Region.wanted
  cases hg : o.guard with
  | none =>
    simp only [cOper, hg, Option.some.injEq] at hw
    exact hw
  | some q =>
    obtain ⟨j, want⟩ := q
    simp only [cOper, hg] at hw
    cases hj : (ops[j]?).bind (·.dst) with
    | none =>
      simp only [hj] at hw
      split at hw
      · rename_i hb
        have := ht X.nt
        rw [hb] at this
        have hv := bool_rep this
        simp [← hn, undef] at hv
      · simp only [Option.some.injEq] at hw; subst hw
        have hy : yielded ops a.tmps j = none := by unfold yielded; rw [hj]; rfl
        simp only [hy]; rfl
      · cases hw
    | some d =>
      simp only [hj] at hw
      split at hw
      · rename_i bb hb
        have := ht d
        rw [hb] at this
        have hv := bool_rep this
        simp only [Option.some.injEq] at hw; subst hw
        have hlt : d < a.tmps.size := by
          rcases Nat.lt_or_ge d a.tmps.size with h | h
          · exact h
          · simp [Array.getElem?_eq_none h, undef] at hv
        have hy : yielded ops a.tmps j = some bb := by
          unfold yielded
          rw [hj]
          simp [hlt] at hv
          simp [hlt, hv]
        simp only [hy]
        cases bb <;> cases want <;> rfl
      · rename_i l hb
        simp only [Option.some.injEq] at hw; subst hw
        have := ht d
        rw [hb] at this
        have hv : ∃ vs, a.tmps.getD d undef = .tuple vs := by
          generalize a.tmps.getD d undef = v at this
          cases this with | tup vs xs h => exact ⟨_, rfl⟩
        obtain ⟨vs, hv⟩ := hv
        have hy : yielded ops a.tmps j = none := by
          unfold yielded
          rw [hj]
          rcases Nat.lt_or_ge d a.tmps.size with h | h
          · simp [h] at hv
            simp [h, hv]
          · simp [Array.getElem?_eq_none h]
        simp only [hy]; rfl
      · cases hw

end
end Go.Proofs.YtjlebmnlphjjoaaGreatDoor.Abs
namespace Go.Proofs.YtjlebmnlphjjoaaGreatDoor.Abs

def noTu (x : AV) : Bool := match x with | .tu _ => false | _ => true

section
variable {P : Program} {X : Ctx} {E : Env} {C : CFT} {g : G} {s : Nat → K} {a : Act} {w w' : World} {fr fr' : Fr}

theorem freezes_noTu : ∀ {xs : List AV} {sh : List Shape} {ys : List PV}, freezes s sh xs = some ys → xs.all noTu = true
  | [], _, _, _ => rfl
  | x :: xs, sh, ys, hy => by
    simp only [freezes] at hy
    split at hy
    · rename_i y h1
      split at hy
      · rename_i zs h2
        rw [List.all_cons, freezes_noTu h2]
        cases x <;> simp_all [frz, freezeC, noTu]
      · cases hy
    · cases hy

theorem freezesD_noTu : ∀ {xs : List AV} {sh : List Shape} {ys : List PV}, freezesD s sh xs = some ys → xs.all noTu = true
  | [], _, _, _ => rfl
  | x :: xs, sh, ys, hy => by
    simp only [freezesD] at hy
    split at hy
    · rename_i y h1
      split at hy
      · rename_i zs h2
        rw [List.all_cons, freezesD_noTu h2]
        cases x <;> simp_all [frzD, freezeCD, freezeC, noTu]
      · cases hy
    · cases hy

theorem freezesX_noTu {xs : List AV} {sh : List Shape} {ys : List PV} (hy : freezesX s sh xs = some ys) : xs.all noTu = true := by
  unfold freezesX at hy
  split at hy
  · rename_i ps hps; exact freezes_noTu hps
  · exact freezesD_noTu hy

theorem hands_noTu {ks : List Nat} : ∀ {xs : List AV} {sh : List Shape} {ys : List AV}, hands ks s sh xs = some ys → xs.all noTu = true
  | [], _, _, _ => rfl
  | x :: xs, sh, ys, hy => by
    simp only [hands] at hy
    split at hy
    · rename_i y h1
      split at hy
      · rename_i zs h2
        rw [List.all_cons, hands_noTu h2]
        cases x <;> simp_all [hand, handC, noTu]
      · cases hy
    · cases hy

theorem doCall_noTu {d : Nat} {f : FuncId} {as : List AV} {sh : List Shape} {r : AV × List (Nat × K)} (hs : doCall E C s d f as sh = some r) : as.all noTu = true := by
  unfold doCall at hs
  split at hs
  · split at hs
    · cases hs
    · rename_i ps hps; exact freezes_noTu hps
  · split at hs
    · cases hs
    · rename_i ps hps; exact freezesX_noTu hps
  · dsimp only at hs
    split at hs
    · cases hs
    · split at hs
      · cases hs
      · rename_i as' has; exact hands_noTu has

theorem RepTV.append {vs vs' : List Value} {xs xs' : List AV} (h : RepTV g s vs xs) (h' : RepTV g s vs' xs') : RepTV g s (vs ++ vs') (xs ++ xs') := by
  induction vs generalizing xs with
  | nil => cases xs with
    | nil => exact h'
    | cons x xs => exact h.elim
  | cons v vs ih => cases xs with
    | nil => exact h.elim
    | cons x xs => exact ⟨h.1, ih h.2⟩

theorem RepTC.tv : ∀ {vs : List Value} {xs : List AV}, RepTC g s vs xs → RepTV g s vs xs
  | [], [], _ => trivial
  | v :: vs, x :: xs, ⟨h, r⟩ => ⟨RepV.ofC h, RepTC.tv r⟩
  | [], _ :: _, h => h.elim
  | _ :: _, [], h => h.elim

/-- A call of a function. -/
theorem call_run (hC : CSound P C) (hI : Inv X.w0 X.S X.fz0 g s w) {t : Nat → AV} {ρ : Operand → Value} (hO : ORel g s ρ (gv t)) {o : Oper} {c : Call} {f : Operand} (n : Nat) (ho : o.op = .call c) (hf : c.callee = .value f) {d : Nat} {sh : List Shape} {x : AV} {us : List (Nat × K)}
    (hs : sem E C d (.call (opdV n (cOpd f)) (c.args.toList.map cOpd) sh) (gv t) s = some (x, us)) :
    ∃ h vs, (execOp ρ o).run P w = .ok (.enter h vs) w ∧ Calls P h vs w fun e w' => ∃ v g', e = .returned v ∧ RepA g' (updAll s us) v x ∧ Inv X.w0 X.S X.fz0 g' (updAll s us) w' ∧ Ext g s g' (updAll s us) := by
  simp only [sem] at hs
  split at hs
  · rename_i h as sh' hcal
    have hnt := doCall_noTu hs
    have hfv : RepA g s (ρ f) (gv t (opdV n (cOpd f))) := by
      have h0 := hO f
      cases hcf : cOpd f with
      | f q =>
        rw [hcf] at h0
        simp only [opdV]
        split
        · rename_i hq
          have h1 : RepP g.fz (ρ f) (.fn q [] []) := h0
          show RepP g.fz (ρ f) (.fn (q + 10000 * n) [] [])
          generalize ρ f = v at h1
          cases h1 with | fn _ va vc _ _ ha hc =>
          have := RepP.fn (fz := g.fz) (q + 10000 * n) va vc [] [] ha hc
          have e : (q + 10000 * n) % 10000 = q % 10000 := Nat.add_mul_mod_self_left q 10000 n
          rw [e] at this
          exact this
        · trivial
      | t k => rw [hcf] at h0; exact h0
      | c v => rw [hcf] at h0; exact h0
      | bad => trivial
    have main : ∀ (va vc : List Value) (xa xc : List AV), ρ f = .func (.func (h % 10000)) va.toArray vc.toArray → as = xa ++ (c.args.toList.map cOpd).map (gv t) ++ xc → RepTV g s va xa → RepTV g s vc xc →
        ∃ h vs, (execOp ρ o).run P w = .ok (.enter h vs) w ∧ Calls P h vs w fun e w' => ∃ v g', e = .returned v ∧ RepA g' (updAll s us) v x ∧ Inv X.w0 X.S X.fz0 g' (updAll s us) w' ∧ Ext g s g' (updAll s us) := by
      intro va vc xa xc hv has ha hc
      have hargs : RepTV g s (c.args.toList.map ρ) ((c.args.toList.map cOpd).map (gv t)) := tv_of hO _ (by
        rw [has, List.all_append, List.all_append] at hnt
        simp only [Bool.and_eq_true] at hnt
        exact hnt.1.2)
      have hall : RepTV g s (va ++ c.args.toList.map ρ ++ vc) as := by rw [has]; exact (ha.append hargs).append hc
      obtain ⟨h1, h2⟩ := doCall_sound hC hI hall hs
      refine ⟨h % 10000, (va ++ c.args.toList.map ρ ++ vc).toArray, ?_, h2⟩
      have e : (va.toArray ++ c.args.map ρ ++ vc.toArray) = (va ++ c.args.toList.map ρ ++ vc).toArray := by
        apply Array.ext'; simp
      have h3 := h1 w
      rw [← e] at h3 ⊢
      simp only [execOp, ho, resolve, hf, hv, Deferred.ofValue, pure_bind, invoke]
      exact h3
    unfold callee at hcal
    split at hcal
    · rename_i g' a' c' hgf
      rw [hgf] at hfv
      simp only [Option.some.injEq, Prod.mk.injEq] at hcal; obtain ⟨rfl, has, _⟩ := hcal
      generalize hv : ρ f = v at hfv
      cases hfv with | fn _ va vc _ _ ha hc =>
      exact main va vc _ _ hv has.symm ha.tv hc.tv
    · rename_i g' a' c' hgf
      rw [hgf] at hfv
      simp only [Option.some.injEq, Prod.mk.injEq] at hcal; obtain ⟨rfl, has, _⟩ := hcal
      obtain ⟨va, vc, hv, ha, hc⟩ := hfv
      exact main va vc _ _ hv has.symm ha.tv hc.tv
    · cases hcal
  · cases hs

/-- One operation, in its frame. -/
theorem op_wp (hC : CSound P C) (h : Rel X fr a w) {ann : Ann} (hfl : FlOk P ann.flats) {ops : Array Oper} {o : Oper} {x : AV} {us : List (Nat × K)}
    (hs : sem E C (o.dst.getD 999) (cOper P X.nt ann ops o).op (gv fr.t) fr.s = some (x, us)) {K : Act → World → Prop} {Q : Exit → Act → World → Prop}
    (hK : ∀ a' w', Rel X { t := (fr.put o.dst x).t, s := updAll fr.s us } a' w' → K a' w') : o.wp P a w K Q := by
  obtain ⟨g, hd, hn, ht, hI, hH⟩ := h
  have hO := ORel.of ht
  have hop : (cOper P X.nt ann ops o).op = cOp P ann o ∧ ∀ d, o.dst = some d → d < X.nt := by
    cases hdst : o.dst with
    | none => exact ⟨by simp [cOper, hdst], fun d h => by cases h⟩
    | some d =>
      by_cases hlt : d < X.nt
      · exact ⟨by simp [cOper, hdst, hlt], fun d' h => by cases h; exact hlt⟩
      · simp [cOper, hdst, hlt, sem] at hs
  rw [hop.1] at hs
  unfold Oper.wp
  by_cases hc : ∃ c f, o.op = .call c ∧ c.callee = .value f
  · obtain ⟨c, f, ho, hf⟩ := hc
    have hs' : sem E C (o.dst.getD 999) (.call (opdV (varOf ann o.dst) (cOpd f)) (c.args.toList.map cOpd) (c.argTypes.toList.map (shapeOf P 4))) (gv fr.t) fr.s = some (x, us) := by
      simpa only [cOp, ho, hf] using hs
    obtain ⟨h, vs, hrun, hcalls⟩ := call_run (X := X) hC hI hO _ ho hf hs'
    rw [hrun, Oper.upon_enter]
    refine hcalls.mono fun e w' he => ?_
    obtain ⟨v, g', rfl, h1, h2, h3⟩ := he
    exact hK _ _ (Rel.put hd hn ht hH h1 h2 h3 hop.2)
  · obtain ⟨nx, w', g', v, hrun, hnx, h1, h2, h3⟩ := op_good hI hO ann hfl o (fun c f ho hf => hc ⟨c, f, ho, hf⟩) hs
    have := hK _ _ (Rel.put hd hn ht hH h1 h2 h3 hop.2)
    rw [hrun]
    rcases hnx with rfl | ⟨rfl, rfl⟩
    · exact this
    · exact this

/-- A region in the order of its text. -/
theorem run_wp (hC : CSound P C) {ann : Ann} (hfl : FlOk P ann.flats) {ops : Array Oper} {Q : Exit → Act → World → Prop} (hQ : ∀ a' w', Rel X fr' a' w' → Q .normal a' w') : ∀ (suf pre : List Oper) (fr : Fr) (a : Act) (w : World), ops.toList = pre ++ suf →
    run E C (suf.map (cOper P X.nt ann ops)) fr = some fr' → Rel X fr a w → wpOps P ops Q (List.range' pre.length suf.length) a w
  | [], pre, fr, a, w, _, hr, h => by
    simp only [List.map_nil, run, Option.some.injEq] at hr; subst hr
    exact hQ _ _ h
  | o :: suf, pre, fr, a, w, hops, hr, h => by
    have hi : ops[pre.length]? = some o := by
      rw [← Array.getElem?_toList, hops]; simp
    have ih := run_wp hC (ann := ann) hfl (ops := ops) hQ suf (pre ++ [o])
    simp only [List.length_append, List.length_cons, List.length_nil, Nat.zero_add, List.append_assoc, List.cons_append, List.nil_append] at ih
    simp only [List.length_cons, List.range'_succ, wpOps, hi]
    simp only [List.map_cons, run] at hr
    split at hr
    · rename_i hw
      rw [wanted_eq h hw]
      simp only [if_true]
      split at hr
      · rename_i x us hs
        exact .inl (op_wp hC h hfl hs fun a' w' h' => ih _ a' w' hops hr h')
      · cases hr
    · rename_i hw
      rw [wanted_eq h hw]
      simp only [Bool.false_eq_true, if_false]
      exact ih _ _ _ hops hr h.drop
    · cases hr

theorem region_wp (hC : CSound P C) {ann : Ann} (hfl : FlOk P ann.flats) {ops : Array Oper} {id : Nat} {Q : Exit → Act → World → Prop} (hQ : ∀ a' w', Rel X fr' a' w' → Q .normal a' w') (hr : run E C (ops.toList.map (cOper P X.nt ann ops)) fr = some fr') (h : Rel X fr a w) :
    (Code.region id ops false).wp P Q a w := by
  refine wp_region ?_
  have := run_wp hC (E := E) (ann := ann) hfl (ops := ops) hQ ops.toList [] fr a w rfl hr h
  rw [List.range_eq_range']
  simpa using this

end
end Go.Proofs.YtjlebmnlphjjoaaGreatDoor.Abs
namespace Go.Proofs.YtjlebmnlphjjoaaGreatDoor.Abs

/-! ### What an operation looks at -/
section
variable {E : Env} {C : CFT} {d : Nat} {g g' : Opd → AV} {s s' : Nat → K}

theorem map_opd {xs : List Opd} (h : ∀ x ∈ xs, g x = g' x) : xs.map g = xs.map g' := List.map_congr_left h

theorem optInt_congr {df : Int} {o : Option Opd} (h : ∀ x ∈ o.toList, g x = g' x) : optInt g df o = optInt g' df o := by
  cases o with
  | none => rfl
  | some x => simp only [optInt, h x (by simp)]

theorem sem_congr_g {op : AOp} (h : ∀ o ∈ op.opnds, g o = g' o) : sem E C d op g s = sem E C d op g' s ∧ foot d op g s = foot d op g' s := by
  cases op with
  | build z ps =>
    have : (ps.map fun q => (q.1, q.2.1, g q.2.2)) = ps.map fun q => (q.1, q.2.1, g' q.2.2) := List.map_congr_left fun q hq => by
      rw [h q.2.2 (List.mem_map.2 ⟨q, hq, rfl⟩)]
    exact ⟨by simp only [sem, this], rfl⟩
  | mkls z xs mu =>
    have hm := map_opd (g := g) (g' := g') (xs := xs) (fun x hx => h x hx)
    cases xs with
    | nil => cases mu <;> simp only [sem, foot, List.map_nil, and_self]
    | cons x xs => simp only [sem, foot, hm, and_self]
  | mkfn f a c =>
    have ha : a.map g = a.map g' := map_opd fun x hx => h x (List.mem_append_left _ hx)
    have hc : c.map g = c.map g' := map_opd fun x hx => h x (List.mem_append_right _ hx)
    simp only [sem, foot, ha, hc, and_self]
  | call f args sh =>
    have ha : args.map g = args.map g' := map_opd fun x hx => h x (List.mem_cons_of_mem _ hx)
    simp only [sem, foot, ha, h f (by simp [AOp.opnds]), and_self]
  | slc z x lo hi mx =>
    have hx : g x = g' x := h x (by simp [AOp.opnds])
    have hl : ∀ df, optInt g df lo = optInt g' df lo := fun df => optInt_congr fun y hy => h y (by simp only [AOp.opnds]; simp [hy] at hy ⊢; try simp [hy])
    have hh : ∀ df, optInt g df hi = optInt g' df hi := fun df => optInt_congr fun y hy => h y (by simp only [AOp.opnds]; simp [hy] at hy ⊢; try simp [hy])
    have hm : ∀ m, mx = some m → g m = g' m := fun m hm => h m (by simp [AOp.opnds, hm])
    refine ⟨?_, by simp only [foot, hx]⟩
    simp only [sem, hx]
    have : slcAV s z (g' x) g lo hi mx = slcAV s z (g' x) g' lo hi mx := by
      unfold slcAV
      simp only [hl, hh]
      cases mx with
      | none => rfl
      | some m => simp only [hm m rfl]
    rw [this]
  | len st x =>
    have hx : g x = g' x := h x (by simp [AOp.opnds])
    cases st <;> simp only [sem, foot, hx, and_self]
  | alloc z => exact ⟨rfl, rfl⟩
  | no => exact ⟨rfl, rfl⟩
  | pick c a b => simp only [sem, foot, h c (by simp [AOp.opnds]), h a (by simp [AOp.opnds]), h b (by simp [AOp.opnds]), and_self]
  | store n x v => simp only [sem, foot, h x (by simp [AOp.opnds]), h v (by simp [AOp.opnds]), and_self]
  | bin op q x y => simp only [sem, foot, h x (by simp [AOp.opnds]), h y (by simp [AOp.opnds]), and_self]
  | iad z arr x i => simp only [sem, foot, h x (by simp [AOp.opnds]), h i (by simp [AOp.opnds]), and_self]
  | idx arr x i => simp only [sem, foot, h x (by simp [AOp.opnds]), h i (by simp [AOp.opnds]), and_self]
  | maxmin mx x y => simp only [sem, foot, h x (by simp [AOp.opnds]), h y (by simp [AOp.opnds]), and_self]
  | app z x y => simp only [sem, foot, h x (by simp [AOp.opnds]), h y (by simp [AOp.opnds]), and_self]
  | mksl z el l c => simp only [sem, foot, h l (by simp [AOp.opnds]), h c (by simp [AOp.opnds]), and_self]
  | mv x => simp only [sem, foot, h x (by simp [AOp.opnds]), and_self]
  | mvl x k j => simp only [sem, foot, h x (by simp [AOp.opnds]), and_self]
  | box x => simp only [sem, foot, h x (by simp [AOp.opnds]), and_self]
  | load agg n x => simp only [sem, foot, h x (by simp [AOp.opnds]), and_self]
  | nilck x => simp only [sem, foot, h x (by simp [AOp.opnds]), and_self]
  | un op x => simp only [sem, foot, h x (by simp [AOp.opnds]), and_self]
  | conv k x => simp only [sem, foot, h x (by simp [AOp.opnds]), and_self]
  | bts x => simp only [sem, foot, h x (by simp [AOp.opnds]), and_self]
  | fad o x => simp only [sem, foot, h x (by simp [AOp.opnds]), and_self]
  | fld agg o n x => simp only [sem, foot, h x (by simp [AOp.opnds]), and_self]
  | ext x i => simp only [sem, foot, h x (by simp [AOp.opnds]), and_self]
  | clear el x => simp only [sem, foot, h x (by simp [AOp.opnds]), and_self]

theorem lk_congr {k v : Nat} (h : s k = s' k) : lk s k v = lk s' k v := by simp only [lk, h]

theorem freezeC_congr {x : AV} (h : ∀ k ∈ keysC x, s k = s' k) : freezeC s x = freezeC s' x := by
  cases x with
  | mp k v i o => simp only [freezeC, lk_congr (h k (by simp [keysC]))]
  | ms k v o n z => simp only [freezeC, lk_congr (h k (by simp [keysC]))]
  | _ => rfl

theorem freezeCs_congr : ∀ {xs : List AV}, (∀ k ∈ xs.flatMap keysC, s k = s' k) → freezeCs s xs = freezeCs s' xs
  | [], _ => rfl
  | x :: xs, h => by
    simp only [freezeCs, freezeC_congr (x := x) (s := s) (s' := s') (fun k hk => h k (by simp [hk])), freezeCs_congr (xs := xs) (fun k hk => h k (by
      simp only [List.flatMap_cons, List.mem_append]; exact .inr hk))]

theorem frz_congr {x : AV} {sh : Shape} (h : ∀ k ∈ keysV x, s k = s' k) : frz s sh x = frz s' sh x := by
  cases x with
  | ag cs => simp only [frz, freezeCs_congr (xs := cs) (s := s) (s' := s') (fun k hk => h k (by simpa [keysV] using hk))]
  | cl f a c =>
    simp only [frz, freezeCs_congr (xs := a) (s := s) (s' := s') (fun k hk => h k (by simp only [keysV, List.mem_append]; exact .inl hk)), freezeCs_congr (xs := c) (s := s) (s' := s') (fun k hk => h k (by simp only [keysV, List.mem_append]; exact .inr hk))]
  | p x => rfl
  | tu xs => rfl
  | e0 z => rfl
  | un => rfl
  | mp k v i o => exact freezeC_congr (x := .mp k v i o) (fun k hk => h k hk)
  | ms k v o n z => exact freezeC_congr (x := .ms k v o n z) (fun k hk => h k hk)

theorem freezes_congr : ∀ {xs : List AV} {sh : List Shape}, (∀ k ∈ xs.flatMap keysV, s k = s' k) → freezes s sh xs = freezes s' sh xs
  | [], _, _ => rfl
  | x :: xs, sh, h => by
    simp only [freezes, frz_congr (x := x) (s := s) (s' := s') (fun k hk => h k (by simp only [List.flatMap_cons, List.mem_append]; exact .inl hk)), freezes_congr (xs := xs) (fun k hk => h k (by
      simp only [List.flatMap_cons, List.mem_append]; exact .inr hk))]

theorem freezeE_congr {x : AV} (h : ∀ k ∈ keysV x, s k = s' k) : freezeE s x = freezeE s' x := by
  cases x with
  | p x => rfl
  | ag cs => simp only [freezeE, freezeCs_congr (xs := cs) (s := s) (s' := s') (fun k hk => h k (by simpa [keysV] using hk))]
  | e0 z => rfl
  | un => rfl
  | tu vs => rfl
  | cl f a c => rfl
  | mp k v i o => exact freezeC_congr (x := .mp k v i o) (fun k hk => h k hk)
  | ms k v o n z => exact freezeC_congr (x := .ms k v o n z) (fun k hk => h k hk)

theorem freezeEs_congr : ∀ {xs : List AV}, (∀ k ∈ xs.flatMap keysV, s k = s' k) → freezeEs s xs = freezeEs s' xs
  | [], _ => rfl
  | x :: xs, h => by
    simp only [freezeEs, freezeE_congr (x := x) (s := s) (s' := s') (fun k hk => h k (by simp [hk])), freezeEs_congr (xs := xs) (fun k hk => h k (by
      simp only [List.flatMap_cons, List.mem_append]; exact .inr hk))]

theorem keysI_congr {k : Nat} (h : s k = s' k) : keysI s k = keysI s' k := by simp only [keysI, h]

theorem keysD_congr {x : AV} (h : ∀ k ∈ keysV x, s k = s' k) : keysD s x = keysD s' x := by
  have : ∀ (l : List Nat), (∀ k ∈ l, s k = s' k) → l.flatMap (keysI s) = l.flatMap (keysI s') := fun l => by
    induction l with
    | nil => intro _; rfl
    | cons a r ih => intro h; rw [List.flatMap_cons, List.flatMap_cons, keysI_congr (h a (by simp)), ih fun k hk => h k (by simp [hk])]
  simp only [keysD, this _ h]

theorem freezeCD_congr {x : AV} (h : ∀ k ∈ keysC x ++ (keysC x).flatMap (keysI s), s k = s' k) : freezeCD s x = freezeCD s' x := by
  cases x with
  | ms k v o n z =>
    have h0 := h k (by simp [keysC])
    have hl : lk s k v = lk s' k v := lk_congr h0
    simp only [freezeCD, ← hl]
    cases hels : lk s k v with
    | none => rfl
    | some els =>
      simp only []
      cases hp : plainAll els with
      | some ps => rfl
      | none =>
        simp only []
        have hs : (s k).2 = some els := by
          simp only [lk] at hels
          split at hels
          · exact hels
          · cases hels
        rw [freezeEs_congr (s := s) (s' := s') (xs := (els.drop o).take n) fun k' hk' => h k' (List.mem_append_right _ (by
          simp only [keysC, List.flatMap_cons, List.flatMap_nil, List.append_nil, keysI, hs, hp]
          rw [List.mem_flatMap] at hk' ⊢
          obtain ⟨x, hx, hk'⟩ := hk'
          exact ⟨x, List.mem_of_mem_drop (List.mem_of_mem_take hx), hk'⟩))]
  | p x => rfl
  | e0 z => rfl
  | un => rfl
  | ag cs => rfl
  | tu vs => rfl
  | cl f a c => rfl
  | mp k v i o => exact freezeC_congr (x := .mp k v i o) (fun k hk => h k (List.mem_append_left _ hk))

theorem freezeCDs_congr : ∀ {xs : List AV}, (∀ x ∈ xs, ∀ k ∈ keysC x ++ (keysC x).flatMap (keysI s), s k = s' k) → freezeCDs s xs = freezeCDs s' xs
  | [], _ => rfl
  | x :: xs, h => by
    simp only [freezeCDs, freezeCD_congr (h x (by simp)), freezeCDs_congr (xs := xs) (fun x hx => h x (by simp [hx]))]

theorem frzD_congr {x : AV} {sh : Shape} (h : ∀ k ∈ keysD s x, s k = s' k) : frzD s sh x = frzD s' sh x := by
  cases x with
  | ag cs =>
    simp only [frzD]
    rw [freezeCDs_congr (s := s) (s' := s') fun x hx k hk => h k ?_]
    unfold keysD keysV
    rw [List.mem_append] at hk ⊢
    rcases hk with hk | hk
    · exact .inl (by simp only [List.mem_flatMap]; exact ⟨x, hx, hk⟩)
    · rw [List.mem_flatMap] at hk
      obtain ⟨k', hk', hkk⟩ := hk
      exact .inr (by rw [List.mem_flatMap]; exact ⟨k', by simp only [List.mem_flatMap]; exact ⟨x, hx, hk'⟩, hkk⟩)
  | cl f a c => rfl
  | p x => rfl
  | tu xs => rfl
  | e0 z => rfl
  | un => rfl
  | mp k v i o => exact freezeCD_congr (x := .mp k v i o) h
  | ms k v o n z => exact freezeCD_congr (x := .ms k v o n z) h

theorem freezesD_congr : ∀ {xs : List AV} {sh : List Shape}, (∀ k ∈ xs.flatMap (keysD s), s k = s' k) → freezesD s sh xs = freezesD s' sh xs
  | [], _, _ => rfl
  | x :: xs, sh, h => by
    simp only [freezesD, frzD_congr (x := x) (s := s) (s' := s') (fun k hk => h k (by simp only [List.flatMap_cons, List.mem_append]; exact .inl hk)), freezesD_congr (xs := xs) (fun k hk => h k (by
      simp only [List.flatMap_cons, List.mem_append]; exact .inr hk))]

theorem freezesX_congr {xs : List AV} {sh : List Shape} (h : ∀ k ∈ xs.flatMap (keysD s), s k = s' k) : freezesX s sh xs = freezesX s' sh xs := by
  unfold freezesX
  rw [freezes_congr (s := s) (s' := s') fun k hk => h k (keysV_D hk), freezesD_congr h]

theorem plainB_congr {k : Nat} (h : s k = s' k) : plainB s k = plainB s' k := by simp only [plainB, h]

theorem kill_congr {ks : List Nat} (h : ∀ k ∈ ks, s k = s' k) : kill s ks = kill s' ks := List.map_congr_left fun k hk => by rw [h k hk]

theorem handC_congr {ks : List Nat} {sh : Option Nat} {x : AV} (h : ∀ k ∈ keysC x, s k = s' k) : handC ks s sh x = handC ks s' sh x := by
  cases x with
  | mp k v i o => simp only [handC, h k (by simp [keysC])]
  | ms k v o n z => simp only [handC, h k (by simp [keysC])]
  | _ => rfl

theorem handCs_congr {ks : List Nat} : ∀ {xs : List AV} {sh : Shape}, (∀ k ∈ xs.flatMap keysC, s k = s' k) → handCs ks s sh xs = handCs ks s' sh xs
  | [], _, _ => rfl
  | x :: xs, sh, h => by
    simp only [handCs, handC_congr (x := x) (s := s) (s' := s') (fun k hk => h k (by simp [hk])), handCs_congr (xs := xs) (fun k hk => h k (by
      simp only [List.flatMap_cons, List.mem_append]; exact .inr hk))]

theorem hand_congr {ks : List Nat} {x : AV} {sh : Shape} (h : ∀ k ∈ keysV x, s k = s' k) : hand ks s sh x = hand ks s' sh x := by
  cases x with
  | ag cs => simp only [hand, handCs_congr (xs := cs) (s := s) (s' := s') (fun k hk => h k (by simpa [keysV] using hk))]
  | cl f a c =>
    simp only [hand, handCs_congr (xs := a) (s := s) (s' := s') (fun k hk => h k (by simp only [keysV, List.mem_append]; exact .inl hk)), handCs_congr (xs := c) (s := s) (s' := s') (fun k hk => h k (by simp only [keysV, List.mem_append]; exact .inr hk))]
  | p x => rfl
  | tu xs => rfl
  | e0 z => rfl
  | un => rfl
  | mp k v i o => exact handC_congr (sh := none) (x := .mp k v i o) (fun k hk => h k hk)
  | ms k v o n z => exact handC_congr (sh := none) (x := .ms k v o n z) (fun k hk => h k hk)

theorem hands_congr {ks : List Nat} : ∀ {xs : List AV} {sh : List Shape}, (∀ k ∈ xs.flatMap keysV, s k = s' k) → hands ks s sh xs = hands ks s' sh xs
  | [], _, _ => rfl
  | x :: xs, sh, h => by
    simp only [hands, hand_congr (x := x) (s := s) (s' := s') (fun k hk => h k (by simp only [List.flatMap_cons, List.mem_append]; exact .inl hk)), hands_congr (xs := xs) (fun k hk => h k (by
      simp only [List.flatMap_cons, List.mem_append]; exact .inr hk))]

theorem blocksOf_congr : ∀ {ks : List Nat}, (∀ k ∈ ks, s k = s' k) → blocksOf s ks = blocksOf s' ks
  | [], _ => rfl
  | k :: ks, h => by simp only [blocksOf, h k (by simp), blocksOf_congr (ks := ks) fun k hk => h k (by simp [hk])]

theorem backC_congr {ks : List Nat} {nx : Nat} {x : AV} (hk : ∀ k ∈ ks, s k = s' k) (hx : ∀ i, i < nx → s (xkey d i) = s' (xkey d i)) : backC ks nx s d x = backC ks nx s' d x := by
  cases x with
  | mp j v i o =>
    simp only [backC]
    split
    · rfl
    · split
      · cases hj : ks[j - 900]? with
        | none => rfl
        | some k => simp only [hk k (List.mem_of_getElem? hj)]
      · split
        · rename_i hlt; simp only [hx _ hlt]
        · rfl
  | ms j v o n z =>
    simp only [backC]
    split
    · rfl
    · split
      · cases hj : ks[j - 900]? with
        | none => rfl
        | some k => simp only [hk k (List.mem_of_getElem? hj)]
      · split
        · rename_i hlt; simp only [hx _ hlt]
        · rfl
  | _ => rfl

theorem backCs_congr {ks : List Nat} {nx : Nat} (hk : ∀ k ∈ ks, s k = s' k) (hx : ∀ i, i < nx → s (xkey d i) = s' (xkey d i)) : ∀ {xs : List AV}, backCs ks nx s d xs = backCs ks nx s' d xs
  | [] => rfl
  | x :: xs => by simp only [backCs, backC_congr (x := x) hk hx, backCs_congr hk hx (xs := xs)]

theorem backV_congr {ks : List Nat} {nx : Nat} {x : AV} (hk : ∀ k ∈ ks, s k = s' k) (hx : ∀ i, i < nx → s (xkey d i) = s' (xkey d i)) : backV ks nx s d x = backV ks nx s' d x := by
  cases x <;> simp only [backV, backCs_congr hk hx, backC_congr hk hx]

theorem backVs_congr {ks : List Nat} {nx : Nat} (hk : ∀ k ∈ ks, s k = s' k) (hx : ∀ i, i < nx → s (xkey d i) = s' (xkey d i)) : ∀ {xs : List AV}, backVs ks nx s d xs = backVs ks nx s' d xs
  | [] => rfl
  | x :: xs => by simp only [backVs, backV_congr (x := x) hk hx, backVs_congr hk hx (xs := xs)]

theorem back_congr {ks : List Nat} {nx : Nat} {x : AV} (hk : ∀ k ∈ ks, s k = s' k) (hx : ∀ i, i < nx → s (xkey d i) = s' (xkey d i)) : back ks nx s d x = back ks nx s' d x := by
  cases x <;> simp only [back, backVs_congr hk hx, backV_congr hk hx]

theorem putBlocks_congr : ∀ {ks : List Nat} {bs : List (List PV)}, (∀ k ∈ ks, s k = s' k) → putBlocks s ks bs = putBlocks s' ks bs
  | [], _, _ => by simp [putBlocks]
  | _ :: _, [], _ => by simp [putBlocks]
  | k :: ks, b :: bs, h => by simp only [putBlocks, h k (by simp), putBlocks_congr (ks := ks) (bs := bs) fun k hk => h k (by simp [hk])]

theorem backX_congr {ks : List Nat} {nx : Nat} (hk : ∀ k ∈ ks, s k = s' k) (hx : ∀ i, i < nx → s (xkey d i) = s' (xkey d i)) : ∀ {xs : List (List AV)}, backX ks nx s d xs = backX ks nx s' d xs
  | [] => rfl
  | x :: xs => by simp only [backX, backVs_congr (xs := x) hk hx, backX_congr hk hx (xs := xs)]

theorem backX_len {ks : List Nat} {nx : Nat} {xs ys : List (List AV)} (h : backX ks nx s d xs = some ys) : ys.length = xs.length := (backX_get h).1

theorem newBlocks_congr : ∀ {xs : List (List AV)} {j : Nat}, (∀ i, i < xs.length → s (xkey d (j + i)) = s' (xkey d (j + i))) → newBlocks s d j xs = newBlocks s' d j xs
  | [], _, _ => rfl
  | b :: xs, j, h => by
    have h0 := h 0 (by simp)
    simp only [Nat.add_zero] at h0
    simp only [newBlocks, h0, newBlocks_congr (xs := xs) (j := j + 1) fun i hi => by
      have := h (i + 1) (by simp; omega)
      have e : j + (i + 1) = j + 1 + i := by omega
      rwa [e] at this]

theorem doCall_congr {f : FuncId} {as : List AV} {sh : List Shape} (h : ∀ k ∈ as.flatMap (keysD s), s k = s' k) (hx : ∀ i, i < 13 → s (xkey d i) = s' (xkey d i)) : doCall E C s d f as sh = doCall E C s' d f as sh := by
  have hV : ∀ k ∈ as.flatMap keysV, s k = s' k := fun k hk => h k (keysV_D hk)
  have hf : (dedup (as.flatMap keysV)).filter (plainB s) = (dedup (as.flatMap keysV)).filter (plainB s') := List.filter_congr fun k hk => plainB_congr (hV k (dedup_mem.1 hk))
  have hd : ∀ k ∈ (dedup (as.flatMap keysV)).filter (plainB s), s k = s' k := fun k hk => hV k (dedup_mem.1 (List.mem_filter.1 hk).1)
  unfold doCall
  cases E.mode f with
  | pure =>
    dsimp only
    rw [freezes_congr hV]
    split
    · rfl
    · congr 1
      funext o
      split
      · rfl
      · rename_i hl
        rw [back_congr (x := o.r) (s := s) (s' := s') (ks := []) (by simp) fun i hi => hx i (by omega), backX_congr (xs := o.x) (s := s) (s' := s') (ks := []) (by simp) fun i hi => hx i (by omega), kill_congr hV]
        split
        · split
          · rename_i xs hxs
            rw [newBlocks_congr (s := s) (s' := s') fun i hi => by simpa using hx i (by have := backX_len hxs; omega)]
          · rfl
        · rfl
  | borrow =>
    dsimp only
    rw [freezesX_congr h]
    split
    · rfl
    · congr 1
      funext o
      split
      · rfl
      · split
        · rfl
        · rename_i hl
          have hl' : ¬ 13 < o.x.length := fun h => hl (.inl h)
          rw [back_congr (x := o.r) (s := s) (s' := s') (ks := []) (by simp) fun i hi => hx i (by omega), backX_congr (xs := o.x) (s := s) (s' := s') (ks := []) (by simp) fun i hi => hx i (by omega)]
          split
          · split
            · rename_i xs hxs
              rw [newBlocks_congr (s := s) (s' := s') fun i hi => by simpa using hx i (by have := backX_len hxs; omega)]
            · rfl
          · rfl
  | mu =>
    dsimp only
    rw [← hf]
    split
    · rfl
    · rw [hands_congr hV, blocksOf_congr hd]
      split
      · rfl
      · split
        · rfl
        · congr 1
          funext o
          split
          · rfl
          · rename_i hl
            rw [back_congr (x := o.r) (s := s) (s' := s') hd fun i hi => hx i (by omega), backX_congr (xs := o.x) (s := s) (s' := s') hd fun i hi => hx i (by omega), putBlocks_congr hd]
            split
            · split
              · rename_i xs hxs
                rw [newBlocks_congr (s := s) (s' := s') fun i hi => by simpa using hx i (by have := backX_len hxs; omega)]
              · rfl
            · rfl

theorem tailOf_congr {z : Nat} {x : AV} (h : ∀ k ∈ keysV x, s k = s' k) : tailOf s z x = tailOf s' z x := by
  cases x with
  | ms k v o n z' => simp only [tailOf, lk_congr (h k (by simp [keysV, keysC]))]
  | p x => cases x <;> rfl
  | _ => rfl

theorem sem_congr_s {op : AOp} (h : ∀ k ∈ foot d op g s, s k = s' k) : sem E C d op g s = sem E C d op g s' := by
  cases op with
  | alloc z => simp only [sem, h d (by simp [foot])]
  | mvl x k j =>
    have hk := h k (by simp [foot])
    have hj := h j (by simp [foot])
    simp only [sem, hk]
    split
    · rename_i j' v o n z hh
      by_cases hc : j' = j ∧ j ≠ k
      · obtain ⟨rfl, hc⟩ := hc
        rw [freezeC_congr (s := s) (s' := s') (x := .ms j' v o n z) (fun i hi => by
          have : i = j' := by simpa [keysC] using hi
          subst this; exact hj), hj]
      · rw [if_neg hc, if_neg hc]
    · rfl
  | box x => simp only [sem, h d (by simp [foot])]
  | mksl z el l c => simp only [sem, h d (by simp [foot])]
  | mkls z xs mu =>
    have hk : ∀ k ∈ (xs.map g).flatMap keysV, s k = s' k := fun k hk => h k (by simp only [foot]; exact List.mem_cons_of_mem _ hk)
    have hd := h d (by simp [foot])
    cases xs with
    | nil => cases mu <;> simp only [sem, hd]
    | cons x xs => cases mu <;> simp only [sem, hd, freezes_congr hk, kill_congr hk]
  | load agg n x =>
    simp only [foot] at h
    simp only [sem]
    cases hx : g x with
    | mp k v i o => rw [hx] at h; simp only [lk_congr (h k (by simp [keysV, keysC]))]
    | p y => cases y <;> rfl
    | _ => rfl
  | store n x v =>
    simp only [foot] at h
    simp only [sem]
    cases hx : g x with
    | mp k ver i o => rw [hx] at h; simp only [lk_congr (h k (by simp [keysV, keysC])), h k (by simp [keysV, keysC])]
    | _ => rfl
  | slc z x lo hi mx =>
    simp only [foot] at h
    simp only [sem]
    have : slcAV s z (g x) g lo hi mx = slcAV s' z (g x) g lo hi mx := by
      unfold slcAV
      cases hx : g x with
      | ms k v o n z' => rw [hx] at h; simp only [lk_congr (h k (by simp [keysV, keysC]))]
      | p y => cases y <;> rfl
      | _ => rfl
    rw [this]
  | iad z arr x i =>
    simp only [foot] at h
    simp only [sem]
    cases hx : g x with
    | ms k v o n z' => rw [hx] at h; cases arr <;> simp only [h k (by simp [keysV, keysC])]
    | p y => cases arr <;> cases y <;> rfl
    | _ => cases arr <;> rfl
  | clear el x =>
    simp only [foot] at h
    simp only [sem]
    cases hx : g x with
    | ms k v o n z' => rw [hx] at h; simp only [lk_congr (h k (by simp [keysV, keysC])), h k (by simp [keysV, keysC])]
    | _ => rfl
  | app z x y =>
    simp only [foot] at h
    have hy : tailOf s z (g y) = tailOf s' z (g y) := tailOf_congr fun k hk => h k (by simp [hk])
    have hd := h d (by simp)
    simp only [sem, hy, hd]
    cases hx : g x with
    | ms k v o n z' =>
      rw [hx] at h
      simp only [lk_congr (h k (by simp [keysV, keysC])), h k (by simp [keysV, keysC])]
    | p y => cases y <;> rfl
    | _ => rfl
  | call f args sh =>
    simp only [foot] at h
    simp only [sem]
    cases hc : callee (g f) (args.map g) sh with
    | none => rfl
    | some q =>
      obtain ⟨h1, as, sh'⟩ := q
      rw [hc] at h
      simp only
      exact doCall_congr (fun k hk => h k (List.mem_append_left _ hk)) fun i hi => h _ (List.mem_append_right _ (List.mem_map.2 ⟨i, List.mem_range.2 hi, rfl⟩))
  | len st x => cases st <;> rfl
  | _ => rfl

end
end Go.Proofs.YtjlebmnlphjjoaaGreatDoor.Abs
namespace Go.Proofs.YtjlebmnlphjjoaaGreatDoor.Abs

/-! ### Orders -/
section
variable {ι α : Type} {n : Nat} {W : Nat → ι → Prop} {V : Nat → ι → α} {L : Nat → Prop} {v v' : ι → α}

theorem V_const (hV : ∀ j, j < n → ∀ k, ¬ W j k → V (j + 1) k = V j k) {k : ι} {a : Nat} : ∀ b, a ≤ b → b ≤ n → (∀ j, a ≤ j → j < b → ¬ W j k) → V b k = V a k := by
  intro b
  induction b with
  | zero => intro h _ _; have : a = 0 := by omega
            rw [this]
  | succ b ih =>
    intro h1 h2 h3
    by_cases e : a = b + 1
    · rw [e]
    · rw [hV b (by omega) k (h3 b (by omega) (by omega)), ih (by omega) (by omega) fun j q1 q2 => h3 j q1 (by omega)]

/-- What lies there when those of L are done: what the last of them has put. -/
def Seg (n : Nat) (W : Nat → ι → Prop) (V : Nat → ι → α) (L : Nat → Prop) (v : ι → α) : Prop :=
  ∀ k i, i ≤ n → (∀ j, j < n → W j k → (L j ↔ j < i)) → v k = V i k

theorem Seg.step (hV : ∀ j, j < n → ∀ k, ¬ W j k → V (j + 1) k = V j k) (h : Seg n W V L v) {m : Nat} (hmn : m < n) (happ : ∀ j, m < j → j < n → L j → ∀ k, W j k → W m k → False)
    (h1 : ∀ k, ¬ W m k → v' k = v k) (h2 : ∀ k, W m k → v' k = V (m + 1) k) : Seg n W V (fun j => L j ∨ j = m) v' := by
  intro k i hi hw
  by_cases hk : W m k
  · have hmi : m < i := (hw m hmn hk).1 (.inr rfl)
    rw [h2 k hk, V_const hV (a := m + 1) i (by omega) hi fun j q1 q2 hj => ?_]
    rcases (hw j (by omega) hj).2 q2 with hl | hl
    · exact happ j (by omega) (by omega) hl k hj hk
    · omega
  · rw [h1 k hk]
    refine h k i hi fun j hj hW => ?_
    have hjm : j ≠ m := fun e => hk (e ▸ hW)
    rw [← hw j hj hW]
    exact ⟨.inl, fun q => q.resolve_right hjm⟩

theorem Seg.congr {L' : Nat → Prop} (h : Seg n W V L v) (hL : ∀ j, j < n → (L j ↔ L' j)) : Seg n W V L' v :=
  fun k i hi hw => h k i hi fun j hj hW => (hL j hj).trans (hw j hj hW)
end

section
variable {E : Env} {C : CFT}

theorem updAll_notin : ∀ {us : List (Nat × K)} {s : Nat → K} {k : Nat}, k ∉ us.map (·.1) → updAll s us k = s k
  | [], _, _, _ => rfl
  | (k0, x) :: us, s, k, h => by
    simp only [List.map_cons, List.mem_cons, not_or] at h
    simp only [updAll]
    rw [updAll_notin h.2, upd_ne _ _ h.1]

theorem updAll_in : ∀ {us : List (Nat × K)} {s s' : Nat → K} {k : Nat}, k ∈ us.map (·.1) → updAll s us k = updAll s' us k
  | (k0, x) :: us, s, s', k, h => by
    simp only [updAll]
    by_cases hr : k ∈ us.map (·.1)
    · exact updAll_in hr
    · rw [updAll_notin hr, updAll_notin hr]
      simp only [List.map_cons, List.mem_cons] at h
      have : k = k0 := h.resolve_right hr
      subst this
      rw [upd_same, upd_same]

theorem steps_seq : ∀ (l : List AOper) (fr fr' : Fr) (acc recs : List (List Nat × List Nat)), steps E C l fr acc = some (fr', recs) →
    ∃ (F : Nat → Fr) (R : Nat → List Nat × List Nat), F 0 = fr ∧ F l.length = fr' ∧ (∀ (j : Nat) (o : AOper), l[j]? = some o → stp E C o (F j) = some (F (j + 1), (R j).1, (R j).2)) ∧ recs = ((List.range l.length).map R).reverse ++ acc
  | [], fr, fr', acc, recs, h => by
    simp only [steps, Option.some.injEq, Prod.mk.injEq] at h; obtain ⟨rfl, rfl⟩ := h
    exact ⟨fun _ => fr, fun _ => ([], []), rfl, rfl, by simp, by simp⟩
  | o :: l, fr, fr', acc, recs, h => by
    simp only [steps] at h
    split at h
    · rename_i fr1 f wr h1
      obtain ⟨F, R, q0, q1, q2, q3⟩ := steps_seq l fr1 fr' _ recs h
      refine ⟨fun j => match j with | 0 => fr | j + 1 => F j, fun j => match j with | 0 => (f, wr) | j + 1 => R j, rfl, q1, fun j o' hj => ?_, ?_⟩
      · cases j with
        | zero =>
          simp only [List.getElem?_cons_zero, Option.some.injEq] at hj; subst hj
          show stp E C o fr = some (F 0, f, wr)
          rw [q0]; exact h1
        | succ j => exact q2 j o' (by simpa using hj)
      · rw [q3, List.length_cons, List.range_succ_eq_map, List.map_cons, List.map_map, List.reverse_cons, List.append_assoc]
        rfl
    · cases h

theorem pairsOk_spec {bef : List Nat} {R : Nat → List Nat × List Nat} : ∀ (n : Nat), pairsOk bef (n - 1) ((List.range n).map R).reverse = true → ∀ i j, i < j → j < n → (bef.getD j 0).testBit i = true ∨ compat (R i) (R j) = true
  | 0, _, i, j, _, h => by omega
  | n + 1, h, i, j, hij, hj => by
    rw [List.range_succ, List.map_append, List.map_singleton, List.reverse_append, List.reverse_singleton, List.singleton_append] at h
    simp only [Nat.add_sub_cancel, pairsOk, Bool.and_eq_true] at h
    by_cases e : j = n
    · subst e
      have hall := List.all_eq_true.1 h.1 (R i, j - 1 - i) (by
        rw [List.mem_zipIdx_iff_getElem?]
        simp only []
        rw [List.getElem?_reverse (by simp; omega)]
        simp only [List.length_map, List.length_range, List.getElem?_map]
        have : j - 1 - (j - 1 - i) = i := by omega
        rw [this, List.getElem?_range hij]
        rfl)
      simp only [Bool.or_eq_true] at hall
      have e2 : j - 1 - (j - 1 - i) = i := by omega
      rw [e2] at hall
      exact hall
    · exact pairsOk_spec n h.2 i j hij (by omega)

theorem stp_cases {o : AOper} {fr fr' : Fr} {f wr : List Nat} (h : stp E C o fr = some (fr', f, wr)) :
    (wanted o fr.t = some true ∧ ∃ x us, sem E C (o.dst.getD 999) o.op (gv fr.t) fr.s = some (x, us) ∧ fr' = { t := (fr.put o.dst x).t, s := updAll fr.s us } ∧ f = foot (o.dst.getD 999) o.op (gv fr.t) fr.s ∧ wr = us.map (·.1)) ∨
    (wanted o fr.t = some false ∧ fr' = fr.put o.dst (.p (.tup [])) ∧ f = [] ∧ wr = []) := by
  unfold stp at h
  split at h
  · rename_i hw
    split at h
    · rename_i x us hs
      simp only [Option.some.injEq, Prod.mk.injEq] at h; obtain ⟨rfl, rfl, rfl⟩ := h
      exact .inl ⟨hw, x, us, hs, rfl, rfl, rfl⟩
    · cases h
  · rename_i hw
    simp only [Option.some.injEq, Prod.mk.injEq] at h; obtain ⟨rfl, rfl, rfl⟩ := h
    exact .inr ⟨hw, rfl, rfl, rfl⟩
  · cases h

theorem put_s (fr : Fr) (dst : Option Nat) (x : AV) : (fr.put dst x).s = fr.s := by cases dst <;> rfl

theorem compat_spec {a b : List Nat × List Nat} (h : compat a b = true) : (∀ k, k ∈ a.2 → k ∈ b.1 → False) ∧ (∀ k, k ∈ a.2 → k ∈ b.2 → False) ∧ (∀ k, k ∈ b.2 → k ∈ a.1 → False) := by
  simp only [compat, Bool.and_eq_true, List.all_eq_true, Bool.not_eq_true', List.contains_eq_mem, decide_eq_false_iff_not] at h
  exact ⟨fun k h1 h2 => (h.1 k h1).1 h2, fun k h1 h2 => (h.1 k h1).2 h2, fun k h1 h2 => h.2 k h1 h2⟩

theorem clear_spec {x y : AOper} (h : x.clear y = true) : (∀ d, x.dst = some d → d ∉ y.looks) ∧ (∀ d, x.dst = some d → y.dst ≠ some d) ∧ (∀ d, y.dst = some d → d ∉ x.looks) := by
  refine ⟨fun d hd => ?_, fun d hd => ?_, fun d hd => ?_⟩ <;> simp [AOper.clear, hd] at h
  · exact h.1.1
  · exact h.1.2
  · exact h.2

/-- The same at every slot and box that it looks at. -/
theorem sem_same {o : AOper} {fr fr1 : Fr} (ht : ∀ d ∈ o.looks, fr.t d = fr1.t d) (hs : ∀ k ∈ foot (o.dst.getD 999) o.op (gv fr1.t) fr1.s, fr.s k = fr1.s k) :
    wanted o fr.t = wanted o fr1.t ∧ sem E C (o.dst.getD 999) o.op (gv fr.t) fr.s = sem E C (o.dst.getD 999) o.op (gv fr1.t) fr1.s := by
  have hg : ∀ x ∈ o.op.opnds, gv fr.t x = gv fr1.t x := fun x hx => by
    cases x with
    | t n => exact ht n (List.mem_append_left _ (List.mem_filterMap.2 ⟨.t n, hx, rfl⟩))
    | _ => rfl
  refine ⟨?_, ?_⟩
  · unfold wanted
    cases hgd : o.guard with
    | none => rfl
    | some q =>
      have : fr.t q.1 = fr1.t q.1 := ht q.1 (List.mem_append_right _ (by simp [hgd]))
      simp only [this]
  · rw [(sem_congr_g (E := E) (C := C) (d := o.dst.getD 999) (s := fr.s) hg).1]
    exact (sem_congr_s fun k hk => (hs k hk).symm).symm

end
end Go.Proofs.YtjlebmnlphjjoaaGreatDoor.Abs
namespace Go.Proofs.YtjlebmnlphjjoaaGreatDoor.Abs

section
variable {P : Program} {X : Ctx} {E : Env} {C : CFT} {fr fr' : Fr}

/-- Which operations are done. -/
def LB (listed : Array Bool) : Nat → Prop := fun j => listed.getD j false = true

theorem LB_set {listed : Array Bool} {m n : Nat} (hn : listed.size = n) (hm : m < n) (j : Nat) : LB (listed.setIfInBounds m true) j ↔ LB listed j ∨ j = m := by
  unfold LB
  by_cases e : m = j
  · subst e
    simp [hn, hm]
  · have e' : ¬ j = m := fun h => e h.symm
    simp [Array.getElem?_setIfInBounds_ne e, e']

def left (n : Nat) (listed : Array Bool) : Nat := ((List.range n).filter fun j => !listed.getD j false).length

theorem left_set {listed : Array Bool} {m n : Nat} (hn : listed.size = n) (hm : m < n) (h : listed.getD m false = false) : left n (listed.setIfInBounds m true) < left n listed := by
  unfold left
  have e : ((List.range n).filter fun j => !(listed.setIfInBounds m true).getD j false) = ((List.range n).filter fun j => !listed.getD j false).filter fun j => decide (j ≠ m) := by
    rw [List.filter_filter]
    refine List.filter_congr fun j hj => ?_
    by_cases e : m = j
    · subst e; simp [hn, hm]
    · have e' : ¬ j = m := fun h => e h.symm
      rw [getD_set_ne false e]; simp [e']
  rw [e]
  refine List.length_filter_lt_length_iff_exists.2 ⟨m, ?_, by simp⟩
  simp only [List.mem_filter, List.mem_range]
  exact ⟨hm, by simp [h]⟩

/-- What a drawn region's text keeps. -/
structure Pre (n : Nat) (A : Nat → AOper) (bef : List Nat) (pre : Nat → List Nat) : Prop where
  back : ∀ j, j < n → ∀ e ∈ pre j, e < j
  via : ∀ i j, i < j → j < n → (bef.getD j 0).testBit i = true → ∃ e ∈ pre j, e = i ∨ (i < e ∧ (bef.getD e 0).testBit i = true)
  slots : ∀ i j, i < j → j < n → (bef.getD j 0).testBit i = true ∨ (A i).clear (A j) = true

theorem regOk_spec {l : List AOper} {bef : List Nat} {pre : List (List Nat)} (h : regOk l bef pre = true) : Pre l.length (fun j => l.getD j default) bef (fun j => pre.getD j []) := by
  unfold regOk at h
  rw [List.all_eq_true] at h
  have hj : ∀ j, j < l.length → _ := fun j hj => h j (List.mem_range.2 hj)
  refine ⟨fun j hlt e he => ?_, fun i j hij hlt hb => ?_, fun i j hij hlt => ?_⟩
  · have := hj j hlt
    rw [Bool.and_eq_true, List.all_eq_true] at this
    simpa using this.1 e he
  · have := hj j hlt
    rw [Bool.and_eq_true] at this
    have h2 := List.all_eq_true.1 this.2 i (List.mem_range.2 hij)
    rw [if_pos hb, List.any_eq_true] at h2
    obtain ⟨e, he, hx⟩ := h2
    simp only [Bool.or_eq_true, beq_iff_eq, Bool.and_eq_true, decide_eq_true_eq] at hx
    exact ⟨e, he, hx⟩
  · have := hj j hlt
    rw [Bool.and_eq_true] at this
    have h2 := List.all_eq_true.1 this.2 i (List.mem_range.2 hij)
    by_cases hb : (bef.getD j 0).testBit i = true
    · exact .inl hb
    · rw [if_neg hb] at h2; exact .inr h2

theorem Pre.down {n : Nat} {A : Nat → AOper} {bef : List Nat} {pre : Nat → List Nat} (hp : Pre n A bef pre) {L : Nat → Prop} (hL : ∀ j, j < n → L j → ∀ e ∈ pre j, L e) :
    ∀ j, j < n → (∀ e ∈ pre j, L e) → ∀ i, i < j → (bef.getD j 0).testBit i = true → L i := by
  intro j
  induction j using Nat.strongRecOn with
  | _ j ih =>
    intro hj hpre i hij hb
    obtain ⟨e, he, hx⟩ := hp.via i j hij hj hb
    have hlt := hp.back j hj e he
    rcases hx with rfl | ⟨h1, h2⟩
    · exact hpre e he
    · exact ih e hlt (by omega) (hL e (by omega) (hpre e he)) i h1 h2

/-- A region drawn: whatever the order, it comes to the same. -/
theorem any_wp (hC : CSound P C) {ann : Ann} (hfl : FlOk P ann.flats) {ops : Array Oper} {Q : Exit → Act → World → Prop} {bef : List Nat} {pre : Nat → List Nat} {n : Nat} (hn : ops.size = n) {A : Nat → AOper} (hA : ∀ (j : Nat) (o : Oper), ops[j]? = some o → A j = cOper P X.nt ann ops o)
    (hpre : ∀ (j : Nat) (o : Oper), ops[j]? = some o → ∀ e, e ∈ pre j ↔ ∃ x ∈ o.after, Region.binds .any x = true ∧ x.on = e) (hp : Pre n A bef pre)
    {F : Nat → Fr} {R : Nat → List Nat × List Nat} (hF : ∀ j, j < n → stp E C (A j) (F j) = some (F (j + 1), (R j).1, (R j).2)) (hR : ∀ i j, i < j → j < n → (bef.getD j 0).testBit i = true ∨ compat (R i) (R j) = true)
    (hQ : ∀ a' w', Rel X (F n) a' w' → Q .normal a' w') :
    ∀ (fuel : Nat) (listed : Array Bool) (fr : Fr) (a : Act) (w : World), left n listed ≤ fuel → listed.size = n → (∀ j, j < n → LB listed j → ∀ e ∈ pre j, LB listed e) →
      Seg n (fun j k => k ∈ (R j).2) (fun j => (F j).s) (LB listed) fr.s → Seg n (fun j d => (A j).dst = some d) (fun j => (F j).t) (LB listed) fr.t → Rel X fr a w → wpAny P .any ops Q fuel listed a w := by
  have hVs : ∀ j, j < n → ∀ k, ¬ k ∈ (R j).2 → (F (j + 1)).s k = (F j).s k := fun j hj k hk => by
    rcases stp_cases (hF j hj) with ⟨_, x, us, _, h2, _, h4⟩ | ⟨_, h2, _, _⟩
    · rw [h2]; exact updAll_notin (h4 ▸ hk)
    · rw [h2, put_s]
  have hVt : ∀ j, j < n → ∀ d, ¬ (A j).dst = some d → (F (j + 1)).t d = (F j).t d := fun j hj d hd => by
    rcases stp_cases (hF j hj) with ⟨_, x, us, _, h2, _, _⟩ | ⟨_, h2, _, _⟩
    · rw [h2]; show ((F j).put (A j).dst x).t d = _; rw [put_t, if_neg hd]
    · rw [h2, put_t, if_neg hd]
  -- all done
  have fin : ∀ (listed : Array Bool) (fr : Fr) (a : Act) (w : World), (∀ j, j < n → LB listed j) → Seg n (fun j k => k ∈ (R j).2) (fun j => (F j).s) (LB listed) fr.s → Seg n (fun j d => (A j).dst = some d) (fun j => (F j).t) (LB listed) fr.t → Rel X fr a w → Q .normal a w := fun listed fr a w hall hs ht h => by
    have e : fr = F n := by
      have e1 : fr.s = (F n).s := funext fun k => hs k n (Nat.le_refl _) fun j hj _ => ⟨fun _ => hj, fun _ => hall j hj⟩
      have e2 : fr.t = (F n).t := funext fun k => ht k n (Nat.le_refl _) fun j hj _ => ⟨fun _ => hj, fun _ => hall j hj⟩
      cases fr; cases hFn : F n; rw [hFn] at e1 e2; simp only at e1 e2; rw [e1, e2]
    rw [e] at h; exact hQ _ _ h
  -- none ready, all done
  have none_ready : ∀ (listed : Array Bool), listed.size = n → Region.ready .any ops listed = [] → ∀ j, j < n → LB listed j := fun listed hsz hr => by
    intro j
    induction j using Nat.strongRecOn with
    | _ j ih =>
      intro hj
      by_cases hl : LB listed j
      · exact hl
      · exfalso
        have hj' : j < ops.size := by omega
        have : j ∈ Region.ready .any ops listed := mem_ready.2 ⟨by
          unfold LB at hl
          have : j < listed.size := by omega
          simp [this] at hl ⊢; exact hl, ops[j], Array.getElem?_eq_getElem hj', fun e he hb => by
            have hm := (hpre j ops[j] (Array.getElem?_eq_getElem hj') e.on).2 ⟨e, he, hb, rfl⟩
            exact ih e.on (hp.back j hj e.on hm) (Nat.lt_trans (hp.back j hj e.on hm) hj)⟩
        rw [hr] at this; cases this
  intro fuel
  induction fuel with
  | zero =>
    intro listed fr a w hf hsz hcl hs ht h
    have hall : ∀ j, j < n → LB listed j := fun j hj => by
      have h0 : left n listed = 0 := by omega
      unfold left at h0
      have h0' := List.eq_nil_of_length_eq_zero h0
      rw [List.filter_eq_nil_iff] at h0'
      simpa [LB] using h0' j (List.mem_range.2 hj)
    refine ⟨?_, fin listed fr a w hall hs ht h⟩
    rw [List.eq_nil_iff_forall_not_mem]
    intro j hj
    obtain ⟨h1, o, ho, _⟩ := mem_ready.1 hj
    have hjn : j < n := by rw [← hn]; exact (Array.getElem?_eq_some_iff.1 ho).1
    have h2 := hall j hjn
    unfold LB at h2
    have : j < listed.size := by omega
    simp [this] at h1 h2
    rw [h1] at h2; cases h2
  | succ fuel ih =>
    intro listed fr a w hf hsz hcl hs ht h
    refine ⟨fun hr => fin listed fr a w (none_ready listed hsz hr) hs ht h, fun m hm => ?_⟩
    obtain ⟨hm1, o, ho, hall⟩ := mem_ready.1 hm
    have hmn : m < n := by rw [← hn]; exact (Array.getElem?_eq_some_iff.1 ho).1
    have hml : listed.getD m false = false := by
      have : m < listed.size := by omega
      simp [this] at hm1 ⊢; exact hm1
    have hmL : ¬ LB listed m := by unfold LB; rw [hml]; simp
    have hmpre : ∀ e ∈ pre m, LB listed e := fun e he => by
      obtain ⟨x, hx, hb, rfl⟩ := (hpre m o ho e).1 he
      exact hall x hx hb
    have hAm := hA m o ho
    have hdst : (A m).dst = o.dst := by rw [hAm]; rfl
    -- what goes ahead is done, what stands after it and is left open is not in the way
    have up : ∀ i, i < m → (bef.getD m 0).testBit i = true → LB listed i := hp.down hcl m hmn hmpre
    have dn : ∀ j, m < j → j < n → LB listed j → (bef.getD j 0).testBit m = true → False := fun j h1 h2 h3 h4 => hmL (hp.down hcl j h2 (hcl j h2 h3) m h1 h4)
    have seeS : ∀ k ∈ (R m).1, fr.s k = (F m).s k := fun k hk => hs k m (by omega) fun j hj hW => by
      have hW' : k ∈ (R j).2 := hW
      rcases Nat.lt_trichotomy j m with q | q | q
      · refine ⟨fun _ => q, fun _ => ?_⟩
        rcases hR j m q hmn with hb | hb
        · exact up j q hb
        · exact ((compat_spec hb).1 k hW' hk).elim
      · subst q; exact ⟨fun hl => absurd hl hmL, fun hl => absurd hl (Nat.lt_irrefl _)⟩
      · refine ⟨fun hl => ?_, fun hl => absurd hl (by omega)⟩
        exfalso
        rcases hR m j q hj with hb | hb
        · exact dn j q hj hl hb
        · exact (compat_spec hb).2.2 k hW' hk
    have seeT : ∀ d ∈ (A m).looks, fr.t d = (F m).t d := fun d hd => ht d m (by omega) fun j hj hW => by
      have hW' : (A j).dst = some d := hW
      rcases Nat.lt_trichotomy j m with q | q | q
      · refine ⟨fun _ => q, fun _ => ?_⟩
        rcases hp.slots j m q hmn with hb | hb
        · exact up j q hb
        · exact ((clear_spec hb).1 d hW' hd).elim
      · subst q; exact ⟨fun hl => absurd hl hmL, fun hl => absurd hl (Nat.lt_irrefl _)⟩
      · refine ⟨fun hl => ?_, fun hl => absurd hl (by omega)⟩
        exfalso
        rcases hp.slots m j q hj with hb | hb
        · exact dn j q hj hl hb
        · exact (clear_spec hb).2.2 d hW' hd
    -- the state behind it
    have next : ∀ (fr2 : Fr) (a2 : Act) (w2 : World), Rel X fr2 a2 w2 → (∀ k, ¬ k ∈ (R m).2 → fr2.s k = fr.s k) → (∀ k, k ∈ (R m).2 → fr2.s k = (F (m + 1)).s k) → (∀ d, ¬ (A m).dst = some d → fr2.t d = fr.t d) → (∀ d, (A m).dst = some d → fr2.t d = (F (m + 1)).t d) →
        wpAny P .any ops Q fuel (listed.setIfInBounds m true) a2 w2 := fun fr2 a2 w2 h2 k1 k2 k3 k4 => by
      refine ih _ fr2 a2 w2 (by have := left_set hsz hmn hml; omega) (by simp [hsz]) (fun j hj hl e he => ?_) ?_ ?_ h2
      · rw [LB_set hsz hmn] at hl ⊢
        rcases hl with hl | rfl
        · exact .inl (hcl j hj hl e he)
        · exact .inl (hmpre e he)
      · refine (Seg.step hVs hs hmn (fun j q hj hl k q1 q2 => ?_) k1 k2).congr fun j hj => (LB_set hsz hmn j).symm
        rcases hR m j q hj with hb | hb
        · exact dn j q hj hl hb
        · exact (compat_spec hb).2.1 k q2 q1
      · refine (Seg.step hVt ht hmn (fun j q hj hl d q1 q2 => ?_) k3 k4).congr fun j hj => (LB_set hsz hmn j).symm
        rcases hp.slots m j q hj with hb | hb
        · exact dn j q hj hl hb
        · exact (clear_spec hb).2.1 d q2 q1
    unfold wpOp
    simp only [ho]
    rcases stp_cases (hF m hmn) with ⟨h1, x, us, h2, h3, h4, h5⟩ | ⟨h1, h3, h4, h5⟩
    · rw [h4] at seeS
      obtain ⟨e1, e2⟩ := sem_same (E := E) (C := C) seeT seeS
      rw [h1] at e1
      rw [h2] at e2
      rw [hAm] at e1
      rw [wanted_eq h e1, if_pos rfl]
      rw [hAm] at e2
      refine .inl (op_wp hC h hfl e2 fun a2 w2 hrel => next _ a2 w2 hrel (fun k hk => updAll_notin (h5 ▸ hk)) (fun k hk => ?_) (fun d hd => ?_) fun d hd => ?_)
      · rw [h3]; exact updAll_in (h5 ▸ hk)
      · show (fr.put o.dst x).t d = _
        rw [put_t, if_neg (hdst ▸ hd)]
      · rw [h3]
        show (fr.put o.dst x).t d = ((F m).put (A m).dst x).t d
        rw [put_t, put_t, ← hdst, if_pos hd, if_pos hd]
    · have e1 : wanted (A m) fr.t = wanted (A m) (F m).t := by
        unfold wanted
        cases hgd : (A m).guard with
        | none => rfl
        | some q =>
          have : fr.t q.1 = (F m).t q.1 := seeT q.1 (List.mem_append_right _ (by simp [hgd]))
          simp only [this]
      rw [h1, hAm] at e1
      rw [wanted_eq h e1, if_neg (by simp)]
      refine next _ _ _ h.drop (fun k _ => by rw [put_s]) (fun k hk => by rw [h5] at hk; cases hk) (fun d hd => by rw [put_t, if_neg (hdst ▸ hd)]) fun d hd => ?_
      rw [h3, put_t, put_t, ← hdst, if_pos hd, if_pos hd]

/-- A drawn region. -/
theorem drawn_wp (hm : P.follows .mixedOrders = true) (hC : CSound P C) {ann : Ann} (hfl : FlOk P ann.flats) {ops : Array Oper} {id : Nat} {Q : Exit → Act → World → Prop} {bef : List Nat} {a : Act} {w : World} {recs : List (List Nat × List Nat)}
    (hok : regOk (ops.toList.map (cOper P X.nt ann ops)) bef (ops.toList.map fun o => (o.after.toList.filter (Region.binds .any)).map fun e => e.on) = true)
    (hr : steps E C (ops.toList.map (cOper P X.nt ann ops)) fr [] = some (fr', recs)) (hpr : pairsOk bef ((ops.toList.map (cOper P X.nt ann ops)).length - 1) recs = true) (h : Rel X fr a w) (hQ : ∀ a' w', Rel X fr' a' w' → Q .normal a' w') :
    (Code.region id ops true).wp P Q a w := by
  have hl : (ops.toList.map (cOper P X.nt ann ops)).length = ops.size := by simp
  obtain ⟨F, R, q0, q1, q2, q3⟩ := steps_seq _ _ _ _ _ hr
  have hp := regOk_spec hok
  rw [hl] at q1 q3 hpr hp
  rw [List.append_nil] at q3
  rw [q3] at hpr
  have at_ : ∀ (j : Nat) (o : Oper), ops[j]? = some o → (ops.toList.map (cOper P X.nt ann ops))[j]? = some (cOper P X.nt ann ops o) := fun j o ho => by
    rw [List.getElem?_map, Array.getElem?_toList, ho]; rfl
  refine wp_region_any hm (any_wp (E := E) hC (ann := ann) hfl (n := ops.size) rfl (A := fun j => (ops.toList.map (cOper P X.nt ann ops)).getD j default) (fun j o ho => by
      show (ops.toList.map (cOper P X.nt ann ops)).getD j default = _
      rw [List.getD_eq_getElem?_getD, at_ j o ho]; rfl)
    (pre := fun j => (ops.toList.map fun o => (o.after.toList.filter (Region.binds .any)).map fun e => e.on).getD j []) (fun j o ho e => ?_) hp (F := F) (R := R) (fun j hj => ?_) (pairsOk_spec ops.size hpr) (fun a' w' hrel => hQ a' w' (q1 ▸ hrel)) ops.size _ (F 0) _ _ ?_ (by simp) (fun j hj hl => ?_) ?_ ?_ ?_)
  · show e ∈ (ops.toList.map fun o => (o.after.toList.filter (Region.binds .any)).map fun e => e.on).getD j [] ↔ _
    rw [List.getD_eq_getElem?_getD, List.getElem?_map, Array.getElem?_toList, ho]
    simp only [Option.map_some, Option.getD_some, List.mem_map, List.mem_filter, Array.mem_toList_iff]
    constructor
    · rintro ⟨x, ⟨h1, h2⟩, h3⟩; exact ⟨x, h1, h2, h3⟩
    · rintro ⟨x, h1, h2, h3⟩; exact ⟨x, ⟨h1, h2⟩, h3⟩
  · have ho := at_ j ops[j] (Array.getElem?_eq_getElem hj)
    have := q2 j _ ho
    show stp E C ((ops.toList.map (cOper P X.nt ann ops)).getD j default) (F j) = _
    rw [List.getD_eq_getElem?_getD, ho]; exact this
  · unfold left
    refine Nat.le_trans (List.length_filter_le _ _) (by simp)
  · unfold LB at hl
    simp [hj] at hl
  · intro k i hi hw
    show (F 0).s k = (F i).s k
    symm
    refine V_const (W := fun j k => k ∈ (R j).2) (V := fun j => (F j).s) (n := ops.size) (fun j hj k hk => ?_) i (Nat.zero_le _) hi fun j _ hji hj => ?_
    · have ho := at_ j ops[j] (Array.getElem?_eq_getElem hj)
      rcases stp_cases (q2 j _ ho) with ⟨_, x, us, _, h2, _, h4⟩ | ⟨_, h2, _, _⟩
      · show (F (j + 1)).s k = (F j).s k
        rw [h2]; exact updAll_notin (h4 ▸ hk)
      · show (F (j + 1)).s k = (F j).s k
        rw [h2, put_s]
    · have := (hw j (by omega) hj).2 hji
      unfold LB at this
      have hjs : j < ops.size := by omega
      simp [hjs] at this
  · intro k i hi hw
    show (F 0).t k = (F i).t k
    symm
    refine V_const (W := fun j d => ((ops.toList.map (cOper P X.nt ann ops)).getD j default).dst = some d) (V := fun j => (F j).t) (n := ops.size) (fun j hj k hk => ?_) i (Nat.zero_le _) hi fun j _ hji hj => ?_
    · have ho := at_ j ops[j] (Array.getElem?_eq_getElem hj)
      have hk' : ¬ (cOper P X.nt ann ops ops[j]).dst = some k := by
        intro e
        apply hk
        show ((ops.toList.map (cOper P X.nt ann ops)).getD j default).dst = some k
        rw [List.getD_eq_getElem?_getD, ho]; exact e
      rcases stp_cases (q2 j _ ho) with ⟨_, x, us, _, h2, _, h4⟩ | ⟨_, h2, _, _⟩
      · show (F (j + 1)).t k = (F j).t k
        rw [h2]; show ((F j).put _ x).t k = _; rw [put_t, if_neg hk']
      · show (F (j + 1)).t k = (F j).t k
        rw [h2, put_t, if_neg hk']
    · have := (hw j (by omega) hj).2 hji
      unfold LB at this
      have hjs : j < ops.size := by omega
      simp [hjs] at this
  · rw [q0]
    obtain ⟨g, hd, hnt, ht, hI, hH⟩ := h
    exact ⟨g, hd, hnt, ht, hI.drew (w' := { w with drawn := w.drawn + 1 }) ⟨rfl, rfl, rfl, Nat.le_succ _⟩ rfl, hH⟩

end
end Go.Proofs.YtjlebmnlphjjoaaGreatDoor.Abs
namespace Go.Proofs.YtjlebmnlphjjoaaGreatDoor.Abs

/-! ### New names -/
/-- No box and no name twice; the names of the boxes that were handed over are theirs alone. -/
def NsOk (s : Nat → K) (ns : List (Nat × Nat)) : Prop :=
  (∀ q ∈ ns, ∀ q' ∈ ns, q.1 = q'.1 → q = q') ∧ (∀ q ∈ ns, ∀ q' ∈ ns, q.2 = q'.2 → q = q') ∧ ∀ q ∈ ns, 900 ≤ q.2 → q.2 < 950 → q.1 = q.2 ∧ (s q.1).1 = 0

theorem foldl_ok {α β : Type} {Q : β → Prop} {f : β → α → β} (h : ∀ b a, Q b → Q (f b a)) : ∀ (l : List α) (b : β), Q b → Q (l.foldl f b)
  | [], _, hb => hb
  | a :: l, b, hb => foldl_ok h l _ (h b a hb)

section
variable {s : Nat → K} {ns : List (Nat × Nat)}

theorem name1_ok {k new : Nat} (h : NsOk s ns) : NsOk s (name1 ns k new) := by
  unfold name1
  split
  · rename_i hc
    simp only [Bool.and_eq_true, Bool.or_eq_true, decide_eq_true_eq] at hc
    obtain ⟨hall, hr⟩ := hc
    have hne : ∀ q ∈ ns, q.1 ≠ k ∧ q.2 ≠ new := fun q hq => by
      have := List.all_eq_true.1 hall q hq
      simpa using this
    obtain ⟨h1, h2, h3⟩ := h
    refine ⟨fun q hq q' hq' e => ?_, fun q hq q' hq' e => ?_, fun q hq => ?_⟩
    · rw [List.mem_append, List.mem_singleton] at hq hq'
      rcases hq with hq | rfl <;> rcases hq' with hq' | rfl
      · exact h1 q hq q' hq' e
      · exact absurd e (hne q hq).1
      · exact absurd e.symm (hne q' hq').1
      · rfl
    · rw [List.mem_append, List.mem_singleton] at hq hq'
      rcases hq with hq | rfl <;> rcases hq' with hq' | rfl
      · exact h2 q hq q' hq' e
      · exact absurd e (hne q hq).2
      · exact absurd e.symm (hne q' hq').2
      · rfl
    · rw [List.mem_append, List.mem_singleton] at hq
      rcases hq with hq | rfl
      · exact h3 q hq
      · intro q1 q2; simp only at q1 q2; omega
  · exact h

theorem nameC_ok {new : Nat} {x : AV} (h : NsOk s ns) : NsOk s (nameC s new ns x) := by
  unfold nameC
  split
  · split
    · exact name1_ok h
    · exact h
  · split
    · exact name1_ok h
    · exact h
  · exact h

theorem nameV_ok {i : Nat} {x : AV} (h : NsOk s ns) : NsOk s (nameV s i ns x) := by
  unfold nameV
  split
  · exact h
  · exact foldl_ok (fun b a hb => nameC_ok hb) _ _ h
  · exact foldl_ok (fun b a hb => nameC_ok hb) _ _ h
  · exact h
  · exact nameC_ok h

theorem nameB_ok : ∀ (l acc : List (Nat × Nat)), NsOk s acc → NsOk s (nameB s acc l)
  | [], _, h => h
  | (k, _) :: r, acc, h => by
    simp only [nameB]
    split
    · split
      · exact nameB_ok r _ h
      · exact nameB_ok r _ (foldl_ok (fun b a hb => nameC_ok hb) _ _ h)
    · exact nameB_ok r _ h

theorem homes_ok : NsOk s (homes s) := by
  have h : ∀ q ∈ homes s, q.1 = q.2 ∧ (s q.1).1 = 0 := fun q hq => by
    unfold homes at hq
    obtain ⟨k, _, hk⟩ := List.mem_filterMap.1 hq
    split at hk
    · rename_i hc; simp only [Option.some.injEq] at hk; subst hk; exact ⟨rfl, hc.1⟩
    · cases hk
  refine ⟨fun q hq q' hq' e => ?_, fun q hq q' hq' e => ?_, fun q hq _ _ => h q hq⟩
  · have h1 := (h q hq).1; have h2 := (h q' hq').1
    exact Prod.ext e (by rw [← h1, ← h2]; exact e)
  · have h1 := (h q hq).1; have h2 := (h q' hq').1
    exact Prod.ext (by rw [h1, h2]; exact e) e

theorem lookup_mem {α : Type} : ∀ {l : List (Nat × α)} {k : Nat} {x : α}, l.lookup k = some x → (k, x) ∈ l
  | [], _, _, h => by simp at h
  | (a, y) :: l, k, x, h => by
    rw [List.lookup_cons] at h
    split at h
    · rename_i e
      simp only [Option.some.injEq] at h; subst h
      have : k = a := by simpa using e
      subst this; simp
    · exact List.mem_cons_of_mem _ (lookup_mem h)

theorem mkS_ver (l : List (Nat × List AV)) (k : Nat) : (mkS l k).1 = 0 := by unfold mkS; split <;> rfl

theorem mkS_some {l : List (Nat × List AV)} {k : Nat} {els : List AV} (h : (mkS l k).2 = some els) : (k, els) ∈ l := by
  unfold mkS at h
  split at h
  · rename_i c hc
    simp only [Option.some.injEq] at h; subst h
    exact lookup_mem hc
  · cases h

theorem mkT_map (f : Nat → AV) (li : List Nat) (i : Nat) : mkT (li.map fun i => (i, f i)) i = if i ∈ li then f i else .un := by
  unfold mkT
  induction li with
  | nil => simp
  | cons a li ih =>
    rw [List.map_cons, List.lookup_cons]
    by_cases e : i = a
    · subst e; simp
    · have : (i == a) = false := by simpa using e
      simp only [this, List.mem_cons, e, false_or]
      exact ih

theorem renBox_cases {els els' : List AV} (h : renBox s ns els = some els') : (els' = els ∧ ∃ ps : List PV, els = ps.map .p) ∨ ((∀ x ∈ els, okRen s ns x = true) ∧ els' = els.map (renV s ns)) := by
  unfold renBox at h
  split at h
  · rename_i ps hp
    simp only [Option.some.injEq] at h
    exact .inl ⟨by rw [← h, plainAll_eq hp], ps, plainAll_eq hp⟩
  · split at h
    · rename_i hall
      simp only [Option.some.injEq] at h
      exact .inr ⟨List.all_eq_true.1 hall, h.symm⟩
    · cases h

theorem renBox_length {els els' : List AV} (h : renBox s ns els = some els') : els.length = els'.length := by
  rcases renBox_cases h with ⟨rfl, _⟩ | ⟨_, rfl⟩
  · rfl
  · simp

theorem renV_cells {x : AV} (h : okRen s ns x = true) : (renV s ns x).cells = x.cells.map (renC s ns) := by
  cases x with
  | p x =>
    simp only [renV]
    rw [cells_p, List.map_map]
    rfl
  | ag cs => rfl
  | e0 z => rfl
  | mp k v i o =>
    simp only [okRen, okRenC, Bool.and_eq_true, beq_iff_eq] at h
    obtain ⟨k', hk'⟩ := Option.isSome_iff_exists.1 h.2
    simp [renV, renC, AV.cells, h.1, hk']
  | ms k v o n z =>
    simp only [okRen, okRenC, Bool.and_eq_true, beq_iff_eq] at h
    obtain ⟨k', hk'⟩ := Option.isSome_iff_exists.1 h.2
    simp [renV, renC, AV.cells, h.1, hk']
  | _ => simp [okRen, okRenC] at h

theorem renV_vok {x : AV} (h : okRen s ns x = true) (hv : vok x = true) : vok (renV s ns x) = true := by
  cases x with
  | p x => exact hv
  | ag cs => rfl
  | e0 z => rfl
  | mp k v i o =>
    simp only [okRen, okRenC, Bool.and_eq_true, beq_iff_eq] at h
    obtain ⟨k', hk'⟩ := Option.isSome_iff_exists.1 h.2
    simp [renV, renC, h.1, hk', vok]
  | ms k v o n z =>
    simp only [okRen, okRenC, Bool.and_eq_true, beq_iff_eq] at h
    obtain ⟨k', hk'⟩ := Option.isSome_iff_exists.1 h.2
    simp [renV, renC, h.1, hk', vok]
  | _ => simp [okRen, okRenC] at h

end

section
variable {g g' : G} {s s' : Nat → K} {ns : List (Nat × Nat)} {v : Value}

theorem renC_rep (hfz : g'.fz = g.fz) (hH : ∀ k k', (k, k') ∈ ns → Hd g s g' s' k k' 0) {x : AV} (h : RepC g s v x) : RepC g' s' v (renC s ns x) := by
  cases x with
  | p x => exact RepP.mono (by rw [hfz]; exact Fz.le_refl _) h
  | e0 z => exact h
  | mp k ver i o =>
    simp only [renC]
    split
    · rename_i hv
      split
      · rename_i k' hk'
        exact h.mp_move hv (hH k k' (lookup_mem hk'))
      · trivial
    · trivial
  | ms k ver o n z =>
    simp only [renC]
    split
    · rename_i hv
      split
      · rename_i k' hk'
        exact h.ms_move hv (hH k k' (lookup_mem hk'))
      · trivial
    · trivial
  | _ => trivial

theorem renCs_rep (hfz : g'.fz = g.fz) (hH : ∀ k k', (k, k') ∈ ns → Hd g s g' s' k k' 0) : ∀ {vs : List Value} {xs : List AV}, RepCs g s vs xs → RepCs g' s' vs (xs.map (renC s ns))
  | [], [], _ => trivial
  | _ :: _, _ :: _, ⟨h, o, r⟩ => ⟨renC_rep hfz hH h, o, renCs_rep hfz hH r⟩
  | [], _ :: _, h => h.elim
  | _ :: _, [], h => h.elim

theorem renTs_rep (hfz : g'.fz = g.fz) (hH : ∀ k k', (k, k') ∈ ns → Hd g s g' s' k k' 0) : ∀ {vs : List Value} {xs : List AV}, RepTC g s vs xs → RepTC g' s' vs (xs.map (renC s ns))
  | [], [], _ => trivial
  | _ :: _, _ :: _, ⟨h, r⟩ => ⟨renC_rep hfz hH h, renTs_rep hfz hH r⟩
  | [], _ :: _, h => h.elim
  | _ :: _, [], h => h.elim

theorem renV_rep (hfz : g'.fz = g.fz) (hH : ∀ k k', (k, k') ∈ ns → Hd g s g' s' k k' 0) {x : AV} (h : RepA g s v x) : RepA g' s' v (renV s ns x) := by
  cases x with
  | p x => exact RepP.mono (by rw [hfz]; exact Fz.le_refl _) h
  | ag cs => obtain ⟨vs, hv, hr⟩ := h; exact ⟨vs, hv, renCs_rep hfz hH hr⟩
  | cl f a c => obtain ⟨va, vc, hv, ha, hc⟩ := h; exact ⟨va, vc, hv, renTs_rep hfz hH ha, renTs_rep hfz hH hc⟩
  | tu xs => trivial
  | un => trivial
  | e0 z => exact h
  | mp k ver i o => exact (RepV.ofC (renC_rep (x := .mp k ver i o) hfz hH h)).toA
  | ms k ver o n z => exact (RepV.ofC (renC_rep (x := .ms k ver o n z) hfz hH h)).toA

end

theorem clean_sound {X : Ctx} {fr : Fr} {a : Act} {w : World} (li : List Nat) (h : Rel X fr a w) : Rel X (clean li fr) a w := by
  obtain ⟨g, hd, hn, ht, hI, hH⟩ := h
  unfold clean
  have hns : NsOk fr.s (nameB fr.s (nameB fr.s (li.foldl (fun acc i => nameV fr.s i acc (fr.t i)) (homes fr.s)) (li.foldl (fun acc i => nameV fr.s i acc (fr.t i)) (homes fr.s))) (List.drop (li.foldl (fun acc i => nameV fr.s i acc (fr.t i)) (homes fr.s)).length (nameB fr.s (li.foldl (fun acc i => nameV fr.s i acc (fr.t i)) (homes fr.s)) (li.foldl (fun acc i => nameV fr.s i acc (fr.t i)) (homes fr.s))))) :=
    nameB_ok _ _ (nameB_ok _ _ (foldl_ok (fun b i hb => nameV_ok hb) _ _ homes_ok))
  dsimp only
  generalize nameB fr.s (nameB fr.s (li.foldl (fun acc i => nameV fr.s i acc (fr.t i)) (homes fr.s)) (li.foldl (fun acc i => nameV fr.s i acc (fr.t i)) (homes fr.s))) (List.drop (li.foldl (fun acc i => nameV fr.s i acc (fr.t i)) (homes fr.s)).length (nameB fr.s (li.foldl (fun acc i => nameV fr.s i acc (fr.t i)) (homes fr.s)) (li.foldl (fun acc i => nameV fr.s i acc (fr.t i)) (homes fr.s)))) = ns at hns ⊢
  obtain ⟨hn1, hn2, hn3⟩ := hns
  generalize hS : (mkS _) = s'
  have hver : ∀ k, (s' k).1 = 0 := fun k => by rw [← hS]; exact mkS_ver _ _
  have hsome : ∀ k' els', (s' k').2 = some els' → (∃ k els, (k, k') ∈ ns ∧ (fr.s k).2 = some els ∧ renBox fr.s ns els = some els') ∨ (∃ i, (∀ q ∈ ns, q.2 ≠ k') ∧ k' = 3000 + i ∧ els' = []) := fun k' els' hk => by
    rw [← hS] at hk
    have hm := mkS_some hk
    rw [List.mem_append] at hm
    rcases hm with hm | hm
    · obtain ⟨q, hq, hx⟩ := List.mem_filterMap.1 hm
      split at hx
      · rename_i els hels
        split at hx
        · rename_i els2 hr
          simp only [Option.some.injEq, Prod.mk.injEq] at hx; obtain ⟨h1, rfl⟩ := hx
          exact .inl ⟨q.1, els, by rw [← h1]; exact hq, hels, hr⟩
        · cases hx
      · cases hx
    · obtain ⟨i, _, hx⟩ := List.mem_filterMap.1 hm
      split at hx
      · split at hx
        · rename_i hall
          simp only [Option.some.injEq, Prod.mk.injEq] at hx; obtain ⟨rfl, rfl⟩ := hx
          exact .inr ⟨i, fun q hq => by simpa using List.all_eq_true.1 hall q hq, rfl, rfl⟩
        · cases hx
      · cases hx
  -- the ghost
  have hg : ∃ g' : G, g'.fz = g.fz ∧ (∀ k k', (k, k') ∈ ns → g'.bk k' = g.bk k) ∧ ∀ k', (∀ q ∈ ns, q.2 ≠ k') → g'.bk k' = none := by
    refine ⟨{ fz := g.fz, bk := fun k' => match ns.find? (fun q => q.2 == k') with | some q => g.bk q.1 | none => none }, rfl, fun k k' hm => ?_, fun k' hno => ?_⟩
    · show (match ns.find? (fun q => q.2 == k') with | some q => g.bk q.1 | none => none) = _
      cases hf : ns.find? (fun q => q.2 == k') with
      | none =>
        have := List.find?_eq_none.1 hf _ hm
        simp at this
      | some q =>
        have h1 := List.mem_of_find?_eq_some hf
        have h2 : q.2 = k' := by simpa using List.find?_some hf
        have := hn2 q h1 (k, k') hm h2
        rw [this]
    · show (match ns.find? (fun q => q.2 == k') with | some q => g.bk q.1 | none => none) = _
      cases hf : ns.find? (fun q => q.2 == k') with
      | none => rfl
      | some q =>
        have h1 := List.mem_of_find?_eq_some hf
        have h2 : q.2 = k' := by simpa using List.find?_some hf
        exact absurd h2 (hno q h1)
  obtain ⟨g', gfz, gat, gno⟩ := hg
  have hHd : ∀ k k', (k, k') ∈ ns → Hd g fr.s g' s' k k' 0 := fun k k' hm => by
    refine ⟨Nat.zero_le _, fun _ => ⟨gat k k' hm, fun els' hels => ?_⟩⟩
    rcases hsome k' els' hels with ⟨k2, els, q1, q2, q3⟩ | ⟨i, q1, _, _⟩
    · have e : k2 = k := congrArg Prod.fst (hn2 _ q1 _ hm rfl)
      subst e
      exact ⟨els, q2, renBox_length q3⟩
    · exact absurd rfl (q1 _ hm)
  have hboxes : ∀ k' els', (s' k').2 = some els' → g'.bk k' = none ∧ els' = [] ∨ ∃ k els, (k, k') ∈ ns ∧ (fr.s k).2 = some els ∧ renBox fr.s ns els = some els' := fun k' els' hk => by
    rcases hsome k' els' hk with hx | ⟨i, q1, _, q3⟩
    · exact .inr hx
    · exact .inl ⟨gno k' q1, q3⟩
  refine ⟨g', hd, hn, fun i => ?_, ⟨hI.os, hI.tape, hI.output, hI.size, hI.old, by rw [gfz]; exact hI.fzle, by rw [gfz]; exact hI.fzok, by rw [gfz]; exact hI.fznew, fun k' els' hk => ?_, fun k' els' p hk hp => ?_, fun k1 k2 els1 els2 p1 p2 h1 h2 hp1 hp2 hne => ?_⟩, fun k' h1 h2 hv els' hels => ?_⟩
  · show RepA g' s' _ (mkT (li.map fun i => (i, _)) i)
    rw [mkT_map]
    split
    · have hi := ht i
      split
      · rename_i z hz
        rw [hz] at hi
        obtain ⟨b, hb, hsp⟩ := hi
        split
        · rename_i hall
          rw [hb]
          refine ⟨⟨b, 0, rfl⟩, Nat.zero_le _, fun _ => .inl ⟨b, rfl, hsp, rfl, fun els hels => ?_⟩⟩
          rcases hsome _ els hels with ⟨k2, els2, q1, _, _⟩ | ⟨i2, _, _, q3⟩
          · have := List.all_eq_true.1 hall _ q1
            simp at this
          · rw [q3]; simp
        · exact ⟨b, hb, hsp⟩
      · exact renV_rep gfz hHd hi
    · trivial
  · rcases hboxes k' els' hk with ⟨q1, q2⟩ | ⟨k, els, q1, q2, q3⟩
    · exact .inl ⟨q2, q1⟩
    · rcases hI.box k els q2 with ⟨hx, hy⟩ | ⟨p, hp, c, t, hb, hc, hsz, hels⟩
      · subst hx
        have := renBox_length q3
        exact .inl ⟨by simpa using this.symm, (gat k k' q1).trans hy⟩
      · refine .inr ⟨p, (gat k k' q1).trans hp, ?_⟩
        rcases renBox_cases q3 with ⟨rfl, ps, rfl⟩ | ⟨hall, rfl⟩
        · exact BoxAt.plain (by rw [gfz]; exact Fz.le_refl _) rfl ⟨c, t, hb, hc, hsz, hels⟩
        · refine ⟨c, t, hb, hc, by simpa using hsz, fun i el hi => ?_⟩
          rw [List.getElem?_map] at hi
          cases hel : els[i]? with
          | none => simp [hel] at hi
          | some el0 =>
            simp only [hel, Option.map_some, Option.some.injEq] at hi; subst hi
            obtain ⟨a1, a2, a3⟩ := hels i el0 hel
            have hok := hall el0 (List.mem_of_getElem? hel)
            refine ⟨renV_vok hok a1, by rw [renV_cells hok, List.length_map]; exact a2, fun j x hx => ?_⟩
            rw [renV_cells hok, List.getElem?_map] at hx
            cases hcx : el0.cells[j]? with
            | none => simp [hcx] at hx
            | some x0 =>
              simp only [hcx, Option.map_some, Option.some.injEq] at hx; subst hx
              obtain ⟨v, b1, b2, b3⟩ := a3 j x0 hcx
              exact ⟨v, b1, b2, renC_rep gfz hHd b3⟩
  · rcases hboxes k' els' hk with ⟨q1, q2⟩ | ⟨k, els, q1, q2, q3⟩
    · rw [q1] at hp; cases hp
    · rw [gfz]
      exact hI.own k els p q2 ((gat k k' q1).symm.trans hp)
  · rcases hboxes k1 els1 h1 with ⟨q1, _⟩ | ⟨k, els, q1, q2, q3⟩
    · rw [q1] at hp1; cases hp1
    · rcases hboxes k2 els2 h2 with ⟨r1, _⟩ | ⟨k0, els0, r1, r2, r3⟩
      · rw [r1] at hp2; cases hp2
      · refine hI.apart k k0 els els0 p1 p2 q2 r2 ((gat _ _ q1).symm.trans hp1) ((gat _ _ r1).symm.trans hp2) fun e => ?_
        exact hne (congrArg Prod.snd (hn1 _ q1 _ r1 e))
  · rcases hsome k' els' hels with ⟨k, els, q1, q2, q3⟩ | ⟨i, _, q2, _⟩
    · obtain ⟨r1, r2⟩ := hn3 _ q1 h1 h2
      simp only at r1 r2
      subst r1
      obtain ⟨p1, p2⟩ := hH k h1 h2 r2 els q2
      exact ⟨(gat _ _ q1).trans p1, by rw [← renBox_length q3]; exact p2⟩
    · omega

end Go.Proofs.YtjlebmnlphjjoaaGreatDoor.Abs
namespace Go.Proofs.YtjlebmnlphjjoaaGreatDoor.Abs

def AX.exit : AX → Exit
  | .norm => .normal
  | .ex id => .exit id
  | .ret => .ret

/-- Loops do what is told of them. -/
def LSound (P : Program) (L : CLT) : Prop := ∀ (X : Ctx) (ann : Ann) (c : Code) (l : List (List Nat × List Nat)) (li lo : List Nat) (fr fr' : Fr) (e : AX), FlOk P ann.flats → codeOk P X.nt ann c = true → L li lo (cCode P X.nt ann c l).1 fr = some (e, fr') →
  ∃ m, ∀ (a : Act) (w : World), Rel X fr a w → ∀ (Q : Exit → Act → World → Prop), (∀ a' w', Rel X fr' a' w' → Q e.exit a' w') → Code.rounds P c Q m a w

section
variable {P : Program} {X : Ctx} {E : Env} {C : CFT} {L : CLT} {ann : Ann}

theorem exec_wp (hm : P.follows .mixedOrders = true) (hC : CSound P C) (hL : LSound P L) (hfl : FlOk P ann.flats) : ∀ (c : Code) (l : List (List Nat × List Nat)) (fr fr' : Fr) (e : AX), codeOk P X.nt ann c = true → exec E C L (cCode P X.nt ann c l).1 fr = some (e, fr') →
    ∀ (a : Act) (w : World), Rel X fr a w → ∀ (Q : Exit → Act → World → Prop), (∀ a' w', Rel X fr' a' w' → Q e.exit a' w') → c.wp P Q a w := by
  intro c
  induction c with
  | skip =>
    intro l fr fr' e hok he a w h Q hQ
    simp only [cCode, exec, Option.some.injEq, Prod.mk.injEq] at he; obtain ⟨rfl, rfl⟩ := he
    exact wp_skip (hQ _ _ h)
  | region id ops d =>
    intro l fr fr' e hok he a w h Q hQ
    cases d with
    | false =>
      simp only [cCode, Bool.false_eq_true, if_false, exec] at he
      split at he
      · rename_i fr1 hr
        simp only [Option.some.injEq, Prod.mk.injEq] at he; obtain ⟨rfl, rfl⟩ := he
        exact region_wp hC hfl hQ hr h
      · cases he
    | true =>
      simp only [codeOk, if_true] at hok
      simp only [cCode, if_true, exec] at he
      split at he
      · rename_i fr1 recs hr
        split at he
        · rename_i hpr
          simp only [Option.some.injEq, Prod.mk.injEq] at he; obtain ⟨rfl, rfl⟩ := he
          exact drawn_wp hm hC hfl hok hr hpr h hQ
        · cases he
      · cases he
  | seq x y ihx ihy =>
    intro l fr fr' e hok he a w h Q hQ
    simp only [cCode, exec] at he
    simp only [codeOk, Bool.and_eq_true] at hok
    refine wp_seq ?_
    split at he
    · rename_i fr1 h1
      exact ihx l fr fr1 .norm hok.1 h1 a w h _ fun a1 w1 hr1 => ihy _ fr1 fr' e hok.2 he a1 w1 hr1 Q hQ
    · rename_i hne
      refine ihx l fr fr' e hok.1 he a w h _ fun a1 w1 hr1 => ?_
      have := hQ a1 w1 hr1
      cases e with
      | norm => exact absurd he (hne fr')
      | ex id => exact this
      | ret => exact this
  | cond cc x y ihx ihy =>
    intro l fr fr' e hok he a w h Q hQ
    simp only [cCode, exec] at he
    have hO := ORel.of h.choose_spec.2.2.1 cc
    simp only [codeOk, Bool.and_eq_true] at hok
    split at he
    · rename_i hb
      rw [hb] at hO
      exact wp_cond_true (bool_rep hO) (ihx l fr fr' e hok.1 he a w h Q hQ)
    · rename_i hb
      rw [hb] at hO
      exact wp_cond_false (bool_rep hO) (ihy _ fr fr' e hok.2 he a w h Q hQ)
    · cases he
  | block id b ih =>
    intro l fr fr' e hok he a w h Q hQ
    simp only [cCode, exec] at he
    refine wp_block ?_
    simp only [codeOk] at hok
    split at he
    · rename_i i fr1 h1
      refine ih l fr fr1 (.ex i) hok h1 a w h _ fun a1 w1 hr1 => ?_
      show if i = id then Q .normal a1 w1 else Q (.exit i) a1 w1
      split at he
      · rename_i hi
        simp only [Option.some.injEq, Prod.mk.injEq] at he; obtain ⟨rfl, rfl⟩ := he
        rw [if_pos hi]; exact hQ _ _ hr1
      · rename_i hi
        simp only [Option.some.injEq, Prod.mk.injEq] at he; obtain ⟨rfl, rfl⟩ := he
        rw [if_neg hi]; exact hQ _ _ hr1
    · rename_i hne
      refine ih l fr fr' e hok he a w h _ fun a1 w1 hr1 => ?_
      have := hQ a1 w1 hr1
      cases e with
      | norm => exact this
      | ex i => exact absurd he (hne i fr')
      | ret => exact this
  | loop b ih =>
    intro l fr fr' e hok he a w h Q hQ
    cases l with
    | nil => simp [cCode, exec] at he
    | cons q l =>
      simp only [cCode, exec] at he
      obtain ⟨m, hr⟩ := hL X ann b l q.1 q.2 _ fr' e hfl (by simpa only [codeOk] using hok) he
      exact wp_loop_rounds m (hr a w (clean_sound q.1 h) Q hQ)
  | exit id =>
    intro l fr fr' e hok he a w h Q hQ
    simp only [cCode, exec, Option.some.injEq, Prod.mk.injEq] at he; obtain ⟨rfl, rfl⟩ := he
    exact wp_exit (hQ _ _ h)
  | ret =>
    intro l fr fr' e hok he a w h Q hQ
    simp only [cCode, exec, Option.some.injEq, Prod.mk.injEq] at he; obtain ⟨rfl, rfl⟩ := he
    exact wp_ret (hQ _ _ h)
  | _ =>
    intro l fr fr' e _ he
    simp [cCode, exec] at he

/-- One round of a loop, and those behind it. -/
theorem loop_sound (hm : P.follows .mixedOrders = true) (hC : CSound P C) (hL : LSound P L) : LSound P (loop E C L) := by
  intro X ann c l li lo fr fr' e hfl hok he
  unfold loop at he
  split at he
  · rename_i fr1 h1
    obtain ⟨m, hr⟩ := hL X ann c l li lo _ fr' e hfl hok he
    refine ⟨m + 1, fun a w h Q hQ => ?_⟩
    exact exec_wp hm hC hL hfl c l fr fr1 .norm hok h1 a w h _ fun a1 w1 hr1 => hr a1 w1 (clean_sound li hr1) Q hQ
  · rename_i e1 fr1 hne h1
    simp only [Option.some.injEq, Prod.mk.injEq] at he; obtain ⟨rfl, rfl⟩ := he
    refine ⟨1, fun a w h Q hQ => ?_⟩
    refine exec_wp hm hC hL hfl c l fr fr1 e1 hok h1 a w h _ fun a1 w1 hr1 => ?_
    have := hQ a1 w1 (clean_sound lo hr1)
    cases e1 with
    | norm => exact (hne rfl).elim
    | ex i => exact this
    | ret => exact this
  · cases he

end
end Go.Proofs.YtjlebmnlphjjoaaGreatDoor.Abs
namespace Go.Proofs.YtjlebmnlphjjoaaGreatDoor.Abs

section
variable {P : Program} {w0 : World} {S : Nat → Prop} {fz0 : Fz} {g g' : G} {s s' : Nat → K} {w w' : World}

/-- Boxes of plain content, under other names. -/
theorem Inv.rename (h : Inv w0 S fz0 g s w) (hfz : g'.fz = g.fz) (σ : Nat → Nat → Prop) (hσ : ∀ k1 k2 k, σ k1 k → σ k2 k → k1 = k2)
    (hc : ∀ k' els', (s' k').2 = some els' → ∃ (k : Nat) (els : List AV), σ k' k ∧ (s k).2 = some els ∧ g'.bk k' = g.bk k ∧ Turn g s g' s' els els') : Inv w0 S fz0 g' s' w := by
  refine ⟨h.os, h.tape, h.output, h.size, h.old, by rw [hfz]; exact h.fzle, by rw [hfz]; exact h.fzok, by rw [hfz]; exact h.fznew, fun k' els' hk => ?_, fun k' els' p hk hp => ?_, fun k1 k2 els1 els2 p1 p2 h1 h2 hp1 hp2 hne => ?_⟩
  · obtain ⟨k, els, q1, q3, q4, q5⟩ := hc k' els' hk
    rcases h.box k _ q3 with ⟨hx, hy⟩ | ⟨p, hp, hx⟩
    · subst hx; exact .inl ⟨List.eq_nil_of_length_eq_zero q5.1, q4.trans hy⟩
    · exact .inr ⟨p, q4.trans hp, hx.turn q5 rfl⟩
  · obtain ⟨k, els, q1, q3, q4, _⟩ := hc k' els' hk
    rw [hfz]; exact h.own k _ p q3 (q4.symm.trans hp)
  · obtain ⟨k, els, q1, q3, q4, _⟩ := hc k1 els1 h1
    obtain ⟨k0, els0, r1, r3, r4, _⟩ := hc k2 els2 h2
    refine h.apart k k0 _ _ p1 p2 q3 r3 (q4.symm.trans hp1) (r4.symm.trans hp2) fun e => ?_
    subst e
    exact hne (hσ _ _ _ q1 r1)

/-! ### Results -/
/-- What the kept boxes become. -/
def Kept (g : G) (s : Nat → K) (g' : G) (s' : Nat → K) (acc : List Nat) : Prop :=
  (∀ k, 900 ≤ k → k < 950 → Hd g s g' s' k k 0) ∧ ∀ (i k : Nat), acc[i]? = some k → Hd g s g' s' k (950 + i) 0

theorem Kept.pre {acc acc' : List Nat} (h : Kept g s g' s' acc') (hp : acc <+: acc') : Kept g s g' s' acc :=
  ⟨h.1, fun i k hi => h.2 i k (by
    obtain ⟨r, rfl⟩ := hp
    rw [List.getElem?_append_left (List.getElem?_eq_some_iff.1 hi).1]; exact hi)⟩

theorem finC_pre {acc acc' : List Nat} {x y : AV} (hy : finC s acc x = some (y, acc')) : acc <+: acc' := by
  unfold finC at hy
  split at hy
  · simp only [Option.some.injEq, Prod.mk.injEq] at hy; rw [hy.2]; exact List.prefix_refl _
  · simp only [Option.some.injEq, Prod.mk.injEq] at hy; rw [hy.2]; exact List.prefix_refl _
  · split at hy
    · split at hy
      · simp only [Option.some.injEq, Prod.mk.injEq] at hy; rw [hy.2]; exact List.prefix_refl _
      · split at hy
        · simp only [Option.some.injEq, Prod.mk.injEq] at hy; rw [hy.2]; exact List.prefix_refl _
        · simp only [Option.some.injEq, Prod.mk.injEq] at hy; rw [← hy.2]; exact List.prefix_append _ _
    · cases hy
  · split at hy
    · split at hy
      · simp only [Option.some.injEq, Prod.mk.injEq] at hy; rw [hy.2]; exact List.prefix_refl _
      · split at hy
        · simp only [Option.some.injEq, Prod.mk.injEq] at hy; rw [hy.2]; exact List.prefix_refl _
        · simp only [Option.some.injEq, Prod.mk.injEq] at hy; rw [← hy.2]; exact List.prefix_append _ _
    · cases hy
  · cases hy

theorem finC_rep (hle : Fz.le g.fz g'.fz) {acc acc' : List Nat} (hk : Kept g s g' s' acc') {v : Value} {x y : AV} (hy : finC s acc x = some (y, acc')) (h : RepC g s v x) : RepC g' s' v y := by
  cases x with
  | p x => simp only [finC, Option.some.injEq, Prod.mk.injEq] at hy; rw [← hy.1]; exact RepP.mono hle h
  | e0 z => simp only [finC, Option.some.injEq, Prod.mk.injEq] at hy; rw [← hy.1]; exact h
  | mp k ver i o =>
    simp only [finC] at hy
    split at hy
    · rename_i hv
      split at hy
      · rename_i hr
        simp only [Option.some.injEq, Prod.mk.injEq] at hy; rw [← hy.1]
        exact h.mp_move hv (hk.1 k hr.1 hr.2)
      · split at hy
        · rename_i j hj
          simp only [Option.some.injEq, Prod.mk.injEq] at hy; rw [← hy.1]
          exact h.mp_move hv (hk.2 j k (by rw [← hy.2]; exact posOf_some hj))
        · simp only [Option.some.injEq, Prod.mk.injEq] at hy; rw [← hy.1]
          exact h.mp_move hv (hk.2 _ k (by rw [← hy.2]; simp))
    · cases hy
  | ms k ver o n z =>
    simp only [finC] at hy
    split at hy
    · rename_i hv
      split at hy
      · rename_i hr
        simp only [Option.some.injEq, Prod.mk.injEq] at hy; rw [← hy.1]
        exact h.ms_move hv (hk.1 k hr.1 hr.2)
      · split at hy
        · rename_i j hj
          simp only [Option.some.injEq, Prod.mk.injEq] at hy; rw [← hy.1]
          exact h.ms_move hv (hk.2 j k (by rw [← hy.2]; exact posOf_some hj))
        · simp only [Option.some.injEq, Prod.mk.injEq] at hy; rw [← hy.1]
          exact h.ms_move hv (hk.2 _ k (by rw [← hy.2]; simp))
    · cases hy
  | _ => simp [finC] at hy

theorem finCs_pre : ∀ {xs : List AV} {acc acc' : List Nat} {ys : List AV}, finCs s acc xs = some (ys, acc') → acc <+: acc'
  | [], acc, acc', ys, hy => by simp only [finCs, Option.some.injEq, Prod.mk.injEq] at hy; rw [hy.2]; exact List.prefix_refl _
  | x :: xs, acc, acc', ys, hy => by
    simp only [finCs] at hy
    split at hy
    · rename_i y acc1 h1
      split at hy
      · rename_i zs acc2 h2
        simp only [Option.some.injEq, Prod.mk.injEq] at hy; rw [← hy.2]
        exact (finC_pre h1).trans (finCs_pre h2)
      · cases hy
    · cases hy

theorem finCs_rep (hle : Fz.le g.fz g'.fz) : ∀ {vs : List Value} {xs : List AV} {acc acc' : List Nat} {ys : List AV}, Kept g s g' s' acc' → finCs s acc xs = some (ys, acc') → RepCs g s vs xs → RepCs g' s' vs ys
  | [], [], acc, acc', ys, _, hy, _ => by simp only [finCs, Option.some.injEq, Prod.mk.injEq] at hy; rw [← hy.1]; trivial
  | v :: vs, x :: xs, acc, acc', ys, hk, hy, ⟨h, o, r⟩ => by
    simp only [finCs] at hy
    split at hy
    · rename_i y acc1 h1
      split at hy
      · rename_i zs acc2 h2
        simp only [Option.some.injEq, Prod.mk.injEq] at hy
        rw [← hy.1]
        rw [hy.2] at h2
        exact ⟨finC_rep hle (hk.pre (finCs_pre h2)) h1 h, o, finCs_rep hle hk h2 r⟩
      · cases hy
    · cases hy
  | [], _ :: _, _, _, _, _, _, h => h.elim
  | _ :: _, [], _, _, _, _, _, h => h.elim

/-- The boxes that a result lays down. -/
def laid (s : Nat → K) (keep : Bool) (x : AV) : List Nat := if keep || handed x then [] else if (frz s [] x).isSome then keysV x else keysD s x

theorem frz_sh (sh : Shape) (x : AV) : (frz s sh x).isSome = (frz s [] x).isSome := by
  cases x with
  | ag cs => simp only [frz]; cases freezeCs s cs <;> rfl
  | cl f a c => rfl
  | _ => rfl

theorem finV_pre {keep : Bool} {sh : Shape} {x y : AV} {acc acc' : List Nat} (hy : finV s keep sh acc x = some (y, acc')) : acc <+: acc' := by
  unfold finV at hy
  split at hy
  · split at hy
    · split at hy
      · rename_i h1
        simp only [Option.some.injEq, Prod.mk.injEq] at hy; rw [← hy.2]; exact finCs_pre h1
      · cases hy
    · exact finC_pre hy
  · split at hy
    · split at hy
      · simp only [Option.some.injEq, Prod.mk.injEq] at hy; rw [hy.2]; exact List.prefix_refl _
      · split at hy
        · split at hy
          · simp only [Option.some.injEq, Prod.mk.injEq] at hy; rw [hy.2]; exact List.prefix_refl _
          · cases hy
        · cases hy
    · cases hy

/-- Without keep nothing is kept. -/
theorem finV_same {sh : Shape} {x y : AV} {acc acc' : List Nat} (hy : finV s false sh acc x = some (y, acc')) : acc' = acc ∧ ∀ k ∈ laid s false x, ¬ (900 ≤ k ∧ k < 950) := by
  unfold finV at hy
  unfold laid
  simp only [Bool.false_or] at hy ⊢
  cases hh : handed x with
  | true =>
    simp only [hh] at hy
    refine ⟨?_, by simp⟩
    cases x with
    | mp k v i o =>
      simp only [handed, Bool.and_eq_true, decide_eq_true_eq] at hh
      simp only [finC, hh.1, hh.2, and_self, if_true] at hy
      split at hy
      · simp only [Option.some.injEq, Prod.mk.injEq] at hy; exact hy.2.symm
      · cases hy
    | ms k v o n z =>
      simp only [handed, Bool.and_eq_true, decide_eq_true_eq] at hh
      simp only [finC, hh.1, hh.2, and_self, if_true] at hy
      split at hy
      · simp only [Option.some.injEq, Prod.mk.injEq] at hy; exact hy.2.symm
      · cases hy
    | _ => simp [handed] at hh
  | false =>
    simp only [hh] at hy
    split at hy
    · rename_i hall
      split at hy
      · rename_i z hz
        simp only [Option.some.injEq, Prod.mk.injEq] at hy
        refine ⟨hy.2.symm, fun k hk => ?_⟩
        have e := frz_sh (s := s) sh x
        rw [hz] at e
        simp only [Bool.false_eq_true, if_false, ← e, Option.isSome_some, if_true] at hk
        have := List.all_eq_true.1 hall k hk
        simp only [Bool.not_eq_true', Bool.and_eq_false_imp, decide_eq_true_eq, decide_eq_false_iff_not] at this
        exact fun h => this h.1 h.2
      · rename_i hz
        have e := frz_sh (s := s) sh x
        rw [hz] at e
        split at hy
        · rename_i hall
          split at hy
          · simp only [Option.some.injEq, Prod.mk.injEq] at hy
            refine ⟨hy.2.symm, fun k hk => ?_⟩
            simp only [Bool.false_eq_true, if_false, ← e, Option.isSome_none] at hk
            have := List.all_eq_true.1 hall k hk
            simp only [Bool.not_eq_true', Bool.and_eq_false_imp, decide_eq_true_eq, decide_eq_false_iff_not] at this
            exact fun h => this h.1 h.2
          · cases hy
        · cases hy
    · cases hy

theorem finC_cell {acc acc' : List Nat} {v : Value} {x y : AV} (hy : finC s acc x = some (y, acc')) (h : RepA g s v x) : RepC g s v x := by
  cases x with
  | ag cs => simp [finC] at hy
  | cl f a c => simp [finC] at hy
  | tu xs => simp [finC] at hy
  | un => simp [finC] at hy
  | _ => exact h

theorem finV_rep (hI : Inv w0 S fz0 g s w) (hle : Fz.le g.fz g'.fz) {keep : Bool} {sh : Shape} {v : Value} {x y : AV} {acc acc' : List Nat} (hk : Kept g s g' s' acc') (hF : ∀ k ∈ laid s keep x, Frozen g s w g'.fz k) (hy : finV s keep sh acc x = some (y, acc')) (h : RepA g s v x) : RepV g' s' v y := by
  unfold finV at hy
  unfold laid at hF
  split at hy
  · split at hy
    · rename_i cs
      split at hy
      · rename_i ys acc1 h1
        simp only [Option.some.injEq, Prod.mk.injEq] at hy
        rw [← hy.1]
        rw [hy.2] at h1
        obtain ⟨vs, hv, hr⟩ := h
        exact ⟨vs, hv, finCs_rep hle hk h1 hr⟩
      · cases hy
    · exact RepV.ofC (finC_rep hle hk hy (finC_cell hy h))
  · rename_i hc
    rw [hc] at hF
    simp only [Bool.false_eq_true, if_false] at hF
    have e := frz_sh (s := s) sh x
    split at hy
    · split at hy
      · rename_i z hz
        simp only [Option.some.injEq, Prod.mk.injEq] at hy
        rw [← hy.1]
        have hv : RepV g s v x := by
          cases x with
          | tu xs => simp [frz, freezeC] at hz
          | _ => exact h
        rw [hz] at e
        simp only [← e, Option.isSome_some, if_true] at hF
        exact frz_rep hI hle sh hF hv hz
      · rename_i hz
        split at hy
        · split at hy
          · rename_i z hz'
            simp only [Option.some.injEq, Prod.mk.injEq] at hy
            rw [← hy.1]
            have hv : RepV g s v x := by
              cases x with
              | tu xs => simp [frzD, freezeCD, freezeC] at hz'
              | _ => exact h
            rw [hz] at e
            simp only [← e, Option.isSome_none, Bool.false_eq_true, if_false] at hF
            exact frzD_rep hI hle sh hF hv hz'
          · cases hy
        · cases hy
    · cases hy

theorem finVs_pre {keep : Bool} : ∀ {xs : List AV} {sh : List Shape} {ys : List AV} {acc acc' : List Nat}, finVs s keep acc sh xs = some (ys, acc') → acc <+: acc'
  | [], sh, ys, acc, acc', hy => by simp only [finVs, Option.some.injEq, Prod.mk.injEq] at hy; rw [hy.2]; exact List.prefix_refl _
  | x :: xs, sh, ys, acc, acc', hy => by
    simp only [finVs] at hy
    split at hy
    · rename_i y acc1 h1
      split at hy
      · rename_i zs acc2 h2
        simp only [Option.some.injEq, Prod.mk.injEq] at hy; rw [← hy.2]
        exact (finV_pre h1).trans (finVs_pre h2)
      · cases hy
    · cases hy

theorem finVs_same : ∀ {xs : List AV} {sh : List Shape} {ys : List AV} {acc acc' : List Nat}, finVs s false acc sh xs = some (ys, acc') → acc' = acc ∧ ∀ k ∈ xs.flatMap (laid s false), ¬ (900 ≤ k ∧ k < 950)
  | [], sh, ys, acc, acc', hy => by simp only [finVs, Option.some.injEq, Prod.mk.injEq] at hy; exact ⟨hy.2.symm, by simp⟩
  | x :: xs, sh, ys, acc, acc', hy => by
    simp only [finVs] at hy
    split at hy
    · rename_i y acc1 h1
      split at hy
      · rename_i zs acc2 h2
        simp only [Option.some.injEq, Prod.mk.injEq] at hy
        obtain ⟨q1, q2⟩ := finV_same h1
        obtain ⟨q3, q4⟩ := finVs_same h2
        refine ⟨by rw [← hy.2, q3, q1], fun k hk => ?_⟩
        rw [List.flatMap_cons, List.mem_append] at hk
        exact hk.elim (q2 k) (q4 k)
      · cases hy
    · cases hy

theorem finVs_rep (hI : Inv w0 S fz0 g s w) (hle : Fz.le g.fz g'.fz) {keep : Bool} : ∀ {vs : List Value} {xs : List AV} {sh : List Shape} {ys : List AV} {acc acc' : List Nat}, Kept g s g' s' acc' → (∀ k ∈ xs.flatMap (laid s keep), Frozen g s w g'.fz k) →
    finVs s keep acc sh xs = some (ys, acc') → (vs.length = xs.length ∧ ∀ (i : Nat) (x : AV), xs[i]? = some x → ∃ v, vs[i]? = some v ∧ RepA g s v x) → RepTV g' s' vs ys
  | [], [], sh, ys, acc, acc', _, _, hy, _ => by simp only [finVs, Option.some.injEq, Prod.mk.injEq] at hy; rw [← hy.1]; trivial
  | v :: vs, x :: xs, sh, ys, acc, acc', hk, hF, hy, ⟨hl, hr⟩ => by
    simp only [finVs] at hy
    split at hy
    · rename_i y acc1 h1
      split at hy
      · rename_i zs acc2 h2
        simp only [Option.some.injEq, Prod.mk.injEq] at hy
        rw [← hy.1]
        rw [hy.2] at h2
        obtain ⟨v', q1, q2⟩ := hr 0 x rfl
        simp only [List.getElem?_cons_zero, Option.some.injEq] at q1; subst q1
        refine ⟨finV_rep hI hle (hk.pre (finVs_pre h2)) (fun k hk => hF k (by rw [List.flatMap_cons, List.mem_append]; exact .inl hk)) h1 q2, ?_⟩
        exact finVs_rep hI hle hk (fun k hk => hF k (by rw [List.flatMap_cons, List.mem_append]; exact .inr hk)) h2 ⟨by simpa using hl, fun i x hi => by simpa using hr (i + 1) x (by simpa using hi)⟩
      · cases hy
    · cases hy
  | [], _ :: _, _, _, _, _, _, _, _, ⟨hl, _⟩ => by simp at hl
  | _ :: _, [], _, _, _, _, _, _, _, ⟨hl, _⟩ => by simp at hl

theorem handedBack_get : ∀ (n j : Nat) {bs : List (List PV)}, handedBack s j n = some bs → bs.length = n ∧ ∀ (i : Nat) (b : List PV), bs[i]? = some b → (s (900 + (j + i))).1 = 0 ∧ (s (900 + (j + i))).2 = some (b.map .p)
  | 0, j, bs, h => by simp only [handedBack, Option.some.injEq] at h; subst h; simp
  | n + 1, j, bs, h => by
    simp only [handedBack, lk] at h
    split at h
    · rename_i els hels
      split at hels
      · rename_i hv
        split at h
        · rename_i ps hps
          split at h
          · rename_i bs' hbs
            simp only [Option.some.injEq] at h; subst h
            obtain ⟨q1, q2⟩ := handedBack_get n (j + 1) hbs
            refine ⟨by simp [q1], fun i b hi => ?_⟩
            cases i with
            | zero =>
              simp only [List.getElem?_cons_zero, Option.some.injEq] at hi; subst hi
              exact ⟨hv, by rw [Nat.add_zero, hels, plainAll_eq hps]⟩
            | succ i =>
              have := q2 i b (by simpa using hi)
              have e : j + 1 + i = j + (i + 1) := by omega
              rwa [e] at this
          · cases h
        · cases h
      · cases hels
    · cases h

/-! What the boxes hold that are handed out -/
theorem finC_shape {acc acc' : List Nat} {x y : AV} (hy : finC s acc x = some (y, acc')) : vok y = vok x ∧ y.cells.length = x.cells.length ∧ ((∃ z, x = .p z ∧ y = .p z) ∨ (x.cells = [x] ∧ y.cells = [y])) := by
  cases x with
  | p x => simp only [finC, Option.some.injEq, Prod.mk.injEq] at hy; rw [← hy.1]; exact ⟨rfl, rfl, .inl ⟨x, rfl, rfl⟩⟩
  | e0 z => simp only [finC, Option.some.injEq, Prod.mk.injEq] at hy; rw [← hy.1]; exact ⟨rfl, rfl, .inr ⟨rfl, rfl⟩⟩
  | mp j ver i o =>
    simp only [finC] at hy
    split at hy
    · split at hy
      · simp only [Option.some.injEq, Prod.mk.injEq] at hy; rw [← hy.1]; exact ⟨rfl, rfl, .inr ⟨rfl, rfl⟩⟩
      · split at hy
        · simp only [Option.some.injEq, Prod.mk.injEq] at hy; rw [← hy.1]; exact ⟨rfl, rfl, .inr ⟨rfl, rfl⟩⟩
        · simp only [Option.some.injEq, Prod.mk.injEq] at hy; rw [← hy.1]; exact ⟨rfl, rfl, .inr ⟨rfl, rfl⟩⟩
    · cases hy
  | ms j ver o n z =>
    simp only [finC] at hy
    split at hy
    · split at hy
      · simp only [Option.some.injEq, Prod.mk.injEq] at hy; rw [← hy.1]; exact ⟨rfl, rfl, .inr ⟨rfl, rfl⟩⟩
      · split at hy
        · simp only [Option.some.injEq, Prod.mk.injEq] at hy; rw [← hy.1]; exact ⟨rfl, rfl, .inr ⟨rfl, rfl⟩⟩
        · simp only [Option.some.injEq, Prod.mk.injEq] at hy; rw [← hy.1]; exact ⟨rfl, rfl, .inr ⟨rfl, rfl⟩⟩
    · cases hy
  | _ => simp [finC] at hy

theorem finCs_get : ∀ {xs ys : List AV} {acc acc' : List Nat}, finCs s acc xs = some (ys, acc') → ys.length = xs.length ∧ ∀ (j : Nat) (x y : AV), xs[j]? = some x → ys[j]? = some y → ∃ a1 a2, finC s a1 x = some (y, a2) ∧ a2 <+: acc'
  | [], ys, acc, acc', h => by simp only [finCs, Option.some.injEq, Prod.mk.injEq] at h; rw [← h.1]; simp
  | x :: xs, ys, acc, acc', h => by
    simp only [finCs] at h
    split at h
    · rename_i y acc1 h1
      split at h
      · rename_i zs acc2 h2
        simp only [Option.some.injEq, Prod.mk.injEq] at h; rw [← h.1, ← h.2]
        obtain ⟨l, hh⟩ := finCs_get h2
        refine ⟨by simp [l], fun j a b ha hb => ?_⟩
        cases j with
        | zero => simp only [List.getElem?_cons_zero, Option.some.injEq] at ha hb; subst ha; subst hb; exact ⟨_, _, h1, finCs_pre h2⟩
        | succ j => exact hh j a b (by simpa using ha) (by simpa using hb)
      · cases h
    · cases h

theorem finVs_get {keep : Bool} : ∀ {xs ys : List AV} {sh : List Shape} {acc acc' : List Nat}, finVs s keep acc sh xs = some (ys, acc') → ys.length = xs.length ∧ ∀ (j : Nat) (x y : AV), xs[j]? = some x → ys[j]? = some y → ∃ a1 a2 sh', finV s keep sh' a1 x = some (y, a2) ∧ a2 <+: acc'
  | [], ys, sh, acc, acc', h => by simp only [finVs, Option.some.injEq, Prod.mk.injEq] at h; rw [← h.1]; simp
  | x :: xs, ys, sh, acc, acc', h => by
    simp only [finVs] at h
    split at h
    · rename_i y acc1 h1
      split at h
      · rename_i zs acc2 h2
        simp only [Option.some.injEq, Prod.mk.injEq] at h; rw [← h.1, ← h.2]
        obtain ⟨l, hh⟩ := finVs_get h2
        refine ⟨by simp [l], fun j a b ha hb => ?_⟩
        cases j with
        | zero => simp only [List.getElem?_cons_zero, Option.some.injEq] at ha hb; subst ha; subst hb; exact ⟨_, _, _, h1, finVs_pre h2⟩
        | succ j => exact hh j a b (by simpa using ha) (by simpa using hb)
      · cases h
    · cases h

theorem fin_turn (hle : Fz.le g.fz g'.fz) {acc acc1 acc' : List Nat} {sh : List Shape} (hk : Kept g s g' s' acc') (hp : acc1 <+: acc') {xs ys : List AV} (hy : finVs s true acc sh xs = some (ys, acc1)) : Turn g s g' s' xs ys := by
  obtain ⟨l, hh⟩ := finVs_get hy
  refine ⟨l, fun i el el' h1 h2 => ?_⟩
  obtain ⟨a1, a2, sh', hv, hpa⟩ := hh i el el' h1 h2
  have hkk := hk.pre (hpa.trans hp)
  unfold finV at hv
  simp only [Bool.true_or] at hv
  have one : ∀ {el el' : AV}, finC s a1 el = some (el', a2) → (vok el = true → vok el' = true) ∧ el'.cells.length = el.cells.length ∧ ∀ (j : Nat) (x x' : AV), el.cells[j]? = some x → el'.cells[j]? = some x' → ∀ v, RepC g s v x → RepC g' s' v x' := fun {el el'} hb => by
    obtain ⟨q1, q2, q3⟩ := finC_shape hb
    refine ⟨fun h => q1.trans h, q2, fun j x x' hx1 hx2 v hv => ?_⟩
    rcases q3 with ⟨z, rfl, rfl⟩ | ⟨q3, q4⟩
    · rw [hx1] at hx2
      obtain rfl : x = x' := by simpa using hx2
      rw [cells_p, List.getElem?_map] at hx1
      cases hcs : z.cells[j]? with
      | none => simp [hcs] at hx1
      | some u =>
        simp [hcs] at hx1; subst hx1
        exact RepP.mono hle hv
    · rw [q3] at hx1; rw [q4] at hx2
      cases j with
      | zero =>
        simp only [List.getElem?_cons_zero, Option.some.injEq] at hx1 hx2; subst hx1; subst hx2
        exact finC_rep hle hkk hb hv
      | succ j => simp at hx1
  cases el with
  | ag cs =>
    simp only [] at hv
    split at hv
    · rename_i cs' acc2 hc
      simp only [Option.some.injEq, Prod.mk.injEq] at hv; rw [← hv.1]
      obtain ⟨l', hh'⟩ := finCs_get hc
      refine ⟨fun _ => rfl, l', fun j x x' hx1 hx2 v hr => ?_⟩
      obtain ⟨b1, b2, hf, hpb⟩ := hh' j x x' hx1 hx2
      exact finC_rep hle (hkk.pre (hv.2 ▸ hpb)) hf hr
    · cases hv
  | p x => exact one (el := .p x) hv
  | e0 z => exact one (el := .e0 z) hv
  | mp k v i o => exact one (el := .mp k v i o) hv
  | ms k v o n z => exact one (el := .ms k v o n z) hv
  | tu vs => simp [finC] at hv
  | cl f a c => simp [finC] at hv
  | un => simp [finC] at hv

theorem finX_pre : ∀ (n i : Nat) {acc acc' : List Nat} {xs : List (List AV)}, finX s n i acc = some (xs, acc') → acc <+: acc'
  | 0, i, acc, acc', xs, h => by
    simp only [finX] at h
    split at h
    · cases h
    · simp only [Option.some.injEq, Prod.mk.injEq] at h; rw [h.2]; exact List.prefix_refl _
  | n + 1, i, acc, acc', xs, h => by
    simp only [finX] at h
    split at h
    · simp only [Option.some.injEq, Prod.mk.injEq] at h; rw [h.2]; exact List.prefix_refl _
    · split at h
      · cases h
      · split at h
        · cases h
        · rename_i els' acc1 he
          split at h
          · rename_i xs' acc2 h2
            simp only [Option.some.injEq, Prod.mk.injEq] at h; rw [← h.2]
            refine List.IsPrefix.trans ?_ (finX_pre n (i + 1) h2)
            split at he
            · simp only [Option.some.injEq, Prod.mk.injEq] at he; rw [he.2]; exact List.prefix_refl _
            · exact finVs_pre he
          · cases h

/-- Each box that is handed out, and what it holds. -/
theorem finX_get : ∀ (n i : Nat) {acc acc' : List Nat} {xs : List (List AV)}, finX s n i acc = some (xs, acc') → xs.length = acc'.length - i ∧ ∀ (j k : Nat), acc'[i + j]? = some k → ∃ els ys, (s k).2 = some els ∧ xs[j]? = some ys ∧ ((∃ ps : List PV, els = ps.map .p ∧ ys = ps.map .p) ∨ ∃ a1 a2, finVs s true a1 [] els = some (ys, a2) ∧ a2 <+: acc')
  | 0, i, acc, acc', xs, h => by
    simp only [finX] at h
    split at h
    · cases h
    · rename_i hl
      simp only [Option.some.injEq, Prod.mk.injEq] at h; obtain ⟨rfl, rfl⟩ := h
      refine ⟨by simp; omega, fun j k hj => ?_⟩
      have := (List.getElem?_eq_some_iff.1 hj).1
      omega
  | n + 1, i, acc, acc', xs, h => by
    simp only [finX] at h
    split at h
    · rename_i hn
      simp only [Option.some.injEq, Prod.mk.injEq] at h; obtain ⟨rfl, rfl⟩ := h
      have hl := List.getElem?_eq_none_iff.1 hn
      refine ⟨by simp; omega, fun j k hj => ?_⟩
      have := (List.getElem?_eq_some_iff.1 hj).1
      omega
    · rename_i k0 hk0
      split at h
      · cases h
      · rename_i els hels
        split at h
        · cases h
        · rename_i els' acc1 he
          split at h
          · rename_i xs' acc2 h2
            simp only [Option.some.injEq, Prod.mk.injEq] at h; obtain ⟨rfl, rfl⟩ := h
            have hpre := finX_pre n (i + 1) h2
            obtain ⟨l, hh⟩ := finX_get n (i + 1) h2
            have hp0 : acc <+: acc1 := by
              split at he
              · simp only [Option.some.injEq, Prod.mk.injEq] at he; rw [he.2]; exact List.prefix_refl _
              · exact finVs_pre he
            have hi : i < acc2.length := by
              have h3 := (List.getElem?_eq_some_iff.1 hk0).1
              have h4 := (hp0.trans hpre).length_le
              omega
            refine ⟨by simp [l]; omega, fun j k hj => ?_⟩
            cases j with
            | zero =>
              have hk : acc2[i]? = some k0 := by
                obtain ⟨r, hr⟩ := hp0.trans hpre
                rw [← hr, List.getElem?_append_left (List.getElem?_eq_some_iff.1 hk0).1]; exact hk0
              rw [Nat.add_zero, hk] at hj
              obtain rfl : k0 = k := by simpa using hj
              refine ⟨els, els', hels, rfl, ?_⟩
              split at he
              · rename_i ps hps
                simp only [Option.some.injEq, Prod.mk.injEq] at he
                exact .inl ⟨ps, plainAll_eq hps, he.1.symm⟩
              · exact .inr ⟨_, _, he, hpre⟩
            | succ j =>
              have e : i + (j + 1) = i + 1 + j := by omega
              rw [e] at hj
              exact hh j k hj
          · cases h

end
end Go.Proofs.YtjlebmnlphjjoaaGreatDoor.Abs
namespace Go.Proofs.YtjlebmnlphjjoaaGreatDoor.Abs

section
variable {P : Program} {w0 : World} {S : Nat → Prop} {fz0 : Fz} {g : G} {w : World} {fr : Fr} {tmps : Array Value}

def resConv (P : Program) : ResultVar → Nat ⊕ (Nat × Bool × Nat)
  | .tmp t => .inl t
  | .cell x t => .inr (x, isAggT P t, P.cellsOf t)

def resOk (P : Program) : ResultVar → Bool
  | .tmp _ => true
  | .cell _ t => okT P t

def resGet (tmps : Array Value) : ResultVar → Sem Value
  | .tmp t => pure (tmps.getD t undef)
  | .cell a t => do loadVar t (← asAddr (tmps.getD a undef))

theorem res_run (hI : Inv w0 S fz0 g fr.s w) (ht : ∀ i, RepA g fr.s (tmps.getD i undef) (fr.t i)) : ∀ (l : List ResultVar) (xs : List AV), l.all (resOk P) = true → resAll fr (l.map (resConv P)) = some xs →
    ∃ vs : List Value, (l.mapM (resGet tmps)).run P w = .ok vs w ∧ vs.length = xs.length ∧ ∀ (i : Nat) (x : AV), xs[i]? = some x → ∃ v, vs[i]? = some v ∧ RepA g fr.s v x
  | [], xs, _, h => by
    simp only [List.map_nil, resAll, Option.some.injEq] at h; subst h
    exact ⟨[], by simp, rfl, by simp⟩
  | r :: l, xs, hok, h => by
    simp only [List.all_cons, Bool.and_eq_true] at hok
    simp only [List.map_cons, resAll] at h
    split at h
    · rename_i y hy
      split at h
      · rename_i ys hys
        simp only [Option.some.injEq] at h; subst h
        obtain ⟨vs, h1, h2, h3⟩ := res_run hI ht l ys hok.2 hys
        have hone : ∃ v, (resGet tmps r).run P w = .ok v w ∧ RepA g fr.s v y := by
          cases r with
          | tmp t =>
            simp only [resConv, resOf, Option.some.injEq] at hy; subst hy
            exact ⟨_, by simp [resGet], ht t⟩
          | cell a t =>
            have hok' : okT P t = true := hok.1
            simp only [resConv, resOf] at hy
            split at hy
            · rename_i k v i o hm
              have hv := ht a
              have hsem : sem { fn := fun _ => none, mode := fun _ => .pure, ext := fun _ _ _ => none } (fun _ _ _ => none) 0 (.load (isAggT P t) (P.cellsOf t) (.t a)) (gv fr.t) fr.s = some (y, []) := by
                simp only [sem, gv, hm]
                split at hy
                · rename_i els hels
                  split at hy
                  · rename_i el hel
                    split at hy
                    · rename_i hc
                      simp only [Option.some.injEq] at hy; subst hy
                      simp only [hels, hel, if_pos hc]
                    · cases hy
                  · cases hy
                · cases hy
              obtain ⟨_, u, hu, hr⟩ := load_run hI hok' (x := .t a) hv hsem
              rw [hm] at hv
              obtain ⟨⟨ad, had⟩, _⟩ := hv
              refine ⟨u, ?_, hr⟩
              rw [had] at hu
              simp only [Instr.loadAt, Instr.sureAddr, pure_bind] at hu
              simp only [resGet, had, asAddr, pure_bind]
              exact hu
            · cases hy
        obtain ⟨v, hv1, hv2⟩ := hone
        refine ⟨v :: vs, by simp [List.mapM_cons, hv1, h1], by simp [h2], fun i x hi => ?_⟩
        cases i with
        | zero => simp only [List.getElem?_cons_zero, Option.some.injEq] at hi; subst hi; exact ⟨v, rfl, hv2⟩
        | succ i => simpa using h3 i x (by simpa using hi)
      · cases h
    · cases h

theorem results_eq (fn : Func) (tmps : Array Value) : results fn tmps = (fn.results.mapM (resGet tmps) >>= fun (vs : Array Value) => (Pure.pure (if h : vs.size = 1 then vs[0] else Value.tuple vs) : Sem Value)) := by
  rfl

theorem mapM_run {f : ResultVar → Sem Value} {a : Array ResultVar} {vs : List Value} (h : (a.toList.mapM f).run P w = .ok vs w) : (a.mapM f).run P w = .ok vs.toArray w := by
  rw [Array.mapM_eq_mapM_toList]
  simp [h]

def noHand (acc : List Nat) : Prop := ∀ k ∈ acc, ¬ (900 ≤ k ∧ k < 950)

theorem noHand.put {acc : List Nat} {k : Nat} (h : noHand acc) (hk : ¬ (900 ≤ k ∧ k < 950)) : noHand (acc ++ [k]) := fun j hj => by
  rw [List.mem_append, List.mem_singleton] at hj
  rcases hj with hj | rfl
  · exact h j hj
  · exact hk

theorem finC_hand {s : Nat → K} {acc acc' : List Nat} {x y : AV} (h : noHand acc) (hy : finC s acc x = some (y, acc')) : noHand acc' := by
  unfold finC at hy
  split at hy
  · simp only [Option.some.injEq, Prod.mk.injEq] at hy; rw [← hy.2]; exact h
  · simp only [Option.some.injEq, Prod.mk.injEq] at hy; rw [← hy.2]; exact h
  · split at hy
    · split at hy
      · simp only [Option.some.injEq, Prod.mk.injEq] at hy; rw [← hy.2]; exact h
      · rename_i hk
        split at hy
        · simp only [Option.some.injEq, Prod.mk.injEq] at hy; rw [← hy.2]; exact h
        · simp only [Option.some.injEq, Prod.mk.injEq] at hy; rw [← hy.2]; exact h.put hk
    · cases hy
  · split at hy
    · split at hy
      · simp only [Option.some.injEq, Prod.mk.injEq] at hy; rw [← hy.2]; exact h
      · rename_i hk
        split at hy
        · simp only [Option.some.injEq, Prod.mk.injEq] at hy; rw [← hy.2]; exact h
        · simp only [Option.some.injEq, Prod.mk.injEq] at hy; rw [← hy.2]; exact h.put hk
    · cases hy
  · cases hy

theorem finCs_hand {s : Nat → K} : ∀ {xs : List AV} {acc acc' : List Nat} {ys : List AV}, noHand acc → finCs s acc xs = some (ys, acc') → noHand acc'
  | [], acc, acc', ys, h, hy => by simp only [finCs, Option.some.injEq, Prod.mk.injEq] at hy; rw [← hy.2]; exact h
  | x :: xs, acc, acc', ys, h, hy => by
    simp only [finCs] at hy
    split at hy
    · rename_i y acc1 h1
      split at hy
      · rename_i zs acc2 h2
        simp only [Option.some.injEq, Prod.mk.injEq] at hy; rw [← hy.2]
        exact finCs_hand (finC_hand h h1) h2
      · cases hy
    · cases hy

theorem finV_hand {s : Nat → K} {keep : Bool} {sh : Shape} {x y : AV} {acc acc' : List Nat} (h : noHand acc) (hy : finV s keep sh acc x = some (y, acc')) : noHand acc' := by
  unfold finV at hy
  split at hy
  · split at hy
    · split at hy
      · rename_i h1
        simp only [Option.some.injEq, Prod.mk.injEq] at hy; rw [← hy.2]; exact finCs_hand h h1
      · cases hy
    · exact finC_hand h hy
  · split at hy
    · split at hy
      · simp only [Option.some.injEq, Prod.mk.injEq] at hy; rw [← hy.2]; exact h
      · split at hy
        · split at hy
          · simp only [Option.some.injEq, Prod.mk.injEq] at hy; rw [← hy.2]; exact h
          · cases hy
        · cases hy
    · cases hy

theorem finVs_hand {s : Nat → K} {keep : Bool} : ∀ {xs : List AV} {sh : List Shape} {ys : List AV} {acc acc' : List Nat}, noHand acc → finVs s keep acc sh xs = some (ys, acc') → noHand acc'
  | [], sh, ys, acc, acc', h, hy => by simp only [finVs, Option.some.injEq, Prod.mk.injEq] at hy; rw [← hy.2]; exact h
  | x :: xs, sh, ys, acc, acc', h, hy => by
    simp only [finVs] at hy
    split at hy
    · rename_i y acc1 h1
      split at hy
      · rename_i zs acc2 h2
        simp only [Option.some.injEq, Prod.mk.injEq] at hy; rw [← hy.2]
        exact finVs_hand (finV_hand h h1) h2
      · cases hy
    · cases hy

theorem finX_hand {s : Nat → K} : ∀ (n i : Nat) {acc acc' : List Nat} {xs : List (List AV)}, noHand acc → finX s n i acc = some (xs, acc') → noHand acc'
  | 0, i, acc, acc', xs, hn, h => by
    simp only [finX] at h
    split at h
    · cases h
    · simp only [Option.some.injEq, Prod.mk.injEq] at h; rw [← h.2]; exact hn
  | n + 1, i, acc, acc', xs, hn, h => by
    simp only [finX] at h
    split at h
    · simp only [Option.some.injEq, Prod.mk.injEq] at h; rw [← h.2]; exact hn
    · split at h
      · cases h
      · split at h
        · cases h
        · rename_i els' acc1 he
          split at h
          · rename_i xs' acc2 h2
            simp only [Option.some.injEq, Prod.mk.injEq] at h; rw [← h.2]
            refine finX_hand n (i + 1) ?_ h2
            split at he
            · simp only [Option.some.injEq, Prod.mk.injEq] at he; rw [← he.2]; exact hn
            · exact finVs_hand hn he
          · cases h

theorem laid_true (s : Nat → K) (xs : List AV) : xs.flatMap (laid s true) = [] := by
  induction xs with
  | nil => rfl
  | cons x xs ih => rw [List.flatMap_cons, ih]; rfl

/-- The ghost behind a function's end. -/
theorem out_ghost {g1 : G} (hI : Inv w0 S fz0 g1 fr.s w) {acc0 acc ksF : List Nat} (hacc : noHand acc) (hnd : acc.Nodup) (hks : noHand ksF) (hor : acc = [] ∨ ksF = []) {out : Out} {nb : Nat} (hx : finX fr.s 13 0 acc0 = some (out.x, acc)) (hb : handedBack fr.s 0 nb = some out.b) :
    ∃ gO : G, gO.fz = fzOf g1 fr.s w ksF ∧ (∀ k, k < 950 → gO.bk k = g1.bk k) ∧ Inv w0 S fz0 gO (outS out) w ∧ Kept g1 fr.s gO (outS out) acc := by
  obtain ⟨hxl, hxk⟩ := finX_get 13 0 hx
  obtain ⟨hbl, hbk⟩ := handedBack_get nb 0 hb
  have hgO : ∃ gO : G, gO.fz = fzOf g1 fr.s w ksF ∧ (∀ k, k < 950 → gO.bk k = g1.bk k) ∧ ∀ i, gO.bk (950 + i) = (acc[i]?).bind g1.bk := by
    refine ⟨{ fz := fzOf g1 fr.s w ksF, bk := fun k => if k < 950 then g1.bk k else (acc[k - 950]?).bind g1.bk }, rfl, fun k hk => if_pos hk, fun i => ?_⟩
    show (if 950 + i < 950 then g1.bk (950 + i) else (acc[950 + i - 950]?).bind g1.bk) = _
    have : 950 + i - 950 = i := by omega
    rw [if_neg (by omega), this]
  obtain ⟨gO, gfz, glo, ghi⟩ := hgO
  have xat : ∀ {i : Nat} {b : List AV}, out.x[i]? = some b → ∃ k els, acc[i]? = some k ∧ (fr.s k).2 = some els ∧ k ∉ ksF ∧ els.length = b.length ∧ ((∃ ps : List PV, els = ps.map .p ∧ b = ps.map .p) ∨ ∃ a1 a2, finVs fr.s true a1 [] els = some (b, a2) ∧ a2 <+: acc) := fun {i b} hi => by
    have hlt : i < acc.length := by
      have := (List.getElem?_eq_some_iff.1 hi).1
      omega
    obtain ⟨els, ys, q1, q2, q3⟩ := hxk i acc[i] (by rw [Nat.zero_add]; exact List.getElem?_eq_getElem hlt)
    rw [hi] at q2; cases q2
    refine ⟨acc[i], els, List.getElem?_eq_getElem hlt, q1, fun hm => ?_, ?_, q3⟩
    · rcases hor with h | h
      · simp [h] at hlt
      · rw [h] at hm; cases hm
    · rcases q3 with ⟨ps, rfl, rfl⟩ | ⟨a1, a2, hf, _⟩
      · rfl
      · exact (finVs_get hf).1.symm
  have bat : ∀ {j : Nat} {b : List PV}, j < 50 → out.b[j]? = some b → (fr.s (900 + j)).2 = some (b.map .p) ∧ 900 + j ∉ ksF := fun {j b} hj hi => by
    have := (hbk j b hi).2
    rw [Nat.zero_add] at this
    exact ⟨this, fun hm => hks _ hm ⟨by omega, by omega⟩⟩
  have e1 : Ext g1 fr.s { g1 with fz := fzOf g1 fr.s w ksF } (fun k => if k ∈ ksF then ((fr.s k).1, none) else fr.s k) := by
    refine ⟨fzOf_le hI ksF, fun k => ?_, fun _ _ => rfl, fun k els' _ he => ?_⟩
    · show (fr.s k).1 ≤ (if k ∈ ksF then ((fr.s k).1, none) else fr.s k).1
      split <;> exact Nat.le_refl _
    · have he' : (if k ∈ ksF then ((fr.s k).1, none) else fr.s k).2 = some els' := he
      split at he'
      · cases he'
      · exact ⟨els', he', rfl⟩
  have hK : Kept g1 fr.s gO (outS out) acc := by
    refine ⟨fun k h1 h3 => ⟨Nat.zero_le _, fun _ => ⟨glo k h3, fun els hels => ?_⟩⟩, fun i k hi => ⟨Nat.zero_le _, fun _ => ⟨by rw [ghi, hi]; rfl, fun els hels => ?_⟩⟩⟩
    · rcases outS_some hels with ⟨j, b, hj, rfl, hb1, rfl⟩ | ⟨j, b, rfl, hx1, rfl⟩
      · exact ⟨_, (bat hj hb1).1, rfl⟩
      · omega
    · rcases outS_some hels with ⟨j, b, hj, he, hb1, rfl⟩ | ⟨j, b, he, hx1, rfl⟩
      · omega
      · have : i = j := by omega
        subst this
        obtain ⟨k', els0, q1, q2, q3, q4, _⟩ := xat hx1
        rw [hi] at q1; cases q1
        exact ⟨_, q2, q4⟩
  have hleO : Fz.le g1.fz gO.fz := by rw [gfz]; exact fzOf_le hI _
  have h2 := hI.hush ksF (fun k => if k ∈ ksF then ((fr.s k).1, none) else fr.s k) (fun k => by
    show (if k ∈ ksF then ((fr.s k).1, none) else fr.s k).2 = _
    split <;> rfl) e1
  have turn2 : ∀ {els els' : List AV}, Turn g1 fr.s gO (outS out) els els' → (els = els' ∧ ∃ ps : List PV, els = ps.map .p) ∨ ksF = [] → Turn { g1 with fz := fzOf g1 fr.s w ksF } (fun k => if k ∈ ksF then ((fr.s k).1, none) else fr.s k) gO (outS out) els els' := fun {els els'} ht hh => by
    rcases hh with ⟨rfl, ps, rfl⟩ | h
    · exact Turn.plain (by rw [gfz]; exact Fz.le_refl _) ps
    · have hg : ({ g1 with fz := fzOf g1 fr.s w ksF } : G) = g1 := by
        rw [h]
        have : fzOf g1 fr.s w [] = g1.fz := by funext b o; unfold fzOf; rw [if_neg]; rintro ⟨_, _, _, hm, _⟩; cases hm
        rw [this]
      have hs : (fun k => if k ∈ ksF then ((fr.s k).1, none) else fr.s k) = fr.s := by funext k; rw [h]; simp
      rw [hg, hs]; exact ht
  refine ⟨gO, gfz, glo, h2.rename gfz (fun k' k => (k' < 950 ∧ 900 ≤ k' ∧ k = k') ∨ ∃ i, k' = 950 + i ∧ acc[i]? = some k) (fun k1 k2 k a1 a2 => ?_) (fun k' els' hk => ?_), hK⟩
  · rcases a1 with ⟨p1, p2, p3⟩ | ⟨i1, p1, p2⟩ <;> rcases a2 with ⟨q1, q2, q3⟩ | ⟨i2, q1, q2⟩
    · rw [← p3, ← q3]
    · exact absurd ⟨by omega, by omega⟩ (hacc k (List.mem_of_getElem? q2))
    · exact absurd ⟨by omega, by omega⟩ (hacc k (List.mem_of_getElem? p2))
    · have r1 := posOf_at hnd p2; have r2 := posOf_at hnd q2
      rw [r1] at r2
      have : i1 = i2 := by simpa using r2
      omega
  · rcases outS_some hk with ⟨j, b, hj, rfl, hb1, rfl⟩ | ⟨j, b, rfl, hx1, rfl⟩
    · obtain ⟨q1, q2⟩ := bat hj hb1
      exact ⟨900 + j, _, .inl ⟨by omega, by omega, rfl⟩, by simp [q2, q1], glo _ (by omega), turn2 (Turn.plain hleO b) (.inl ⟨rfl, b, rfl⟩)⟩
    · obtain ⟨k, els, q1, q2, q3, _, q5⟩ := xat hx1
      refine ⟨k, els, .inr ⟨j, rfl, q1⟩, by simp [q3, q2], by rw [ghi, q1]; rfl, ?_⟩
      rcases q5 with ⟨ps, rfl, rfl⟩ | ⟨a1, a2, hf, hp⟩
      · exact turn2 (Turn.plain hleO ps) (.inl ⟨rfl, ps, rfl⟩)
      · refine turn2 (fin_turn hleO hK hp hf) (.inr ?_)
        rcases hor with h | h
        · rw [h] at q1; simp at q1
        · exact h

theorem RepTV.ts {g : G} {s : Nat → K} : ∀ {vs : List Value} {ps : List PV}, RepTV g s vs (ps.map .p) → RepTs g.fz vs ps
  | [], [], _ => .nil
  | v :: vs, p :: ps, ⟨h, r⟩ => .cons v p vs ps h (RepTV.ts r)
  | [], _ :: _, h => h.elim
  | _ :: _, [], h => h.elim

theorem finish_sound {g0 g1 : G} {bs : List (List PV)} {fn : Func} {af : AF} {out : Out} (hl : bs.length ≤ 50) (hI : Inv w0 (inPl g0 bs) g0.fz g1 fr.s w) (ht : ∀ i, RepA g1 fr.s (tmps.getD i undef) (fr.t i))
    (hH : Home g0.bk (fun k => (bs.getD (k - 900) []).length) g1 fr.s) (hok : fn.results.toList.all (resOk P) = true) (hres : af.res = fn.results.toList.map (resConv P)) (h : finish af bs.length fr = some out) :
    ∃ v, (results fn tmps).run P w = .ok v w ∧ Ends w0 g0 bs out v w := by
  unfold finish at h
  rw [hres] at h
  split at h
  · cases h
  · rename_i xs hxs
    obtain ⟨vs, h1, h2, h3⟩ := res_run (P := P) hI ht _ xs hok hxs
    have hrun := mapM_run h1
    have tail : ∀ (r : AV) (acc : List Nat) (v : Value), noHand acc → ((af.keep = true) ∨ (acc = [] ∧ noHand (xs.flatMap (laid fr.s af.keep)))) →
        (match finX fr.s 13 0 acc with | some (xs, acc') => (if (dedup acc').length = acc'.length then match handedBack fr.s 0 bs.length with | some bs => some { r := r, b := bs, x := xs } | none => none else none) | none => none) = some out →
        (∀ (gO : G) (s' : Nat → K), Fz.le g1.fz gO.fz → Kept g1 fr.s gO s' acc → (∀ k ∈ xs.flatMap (laid fr.s af.keep), Frozen g1 fr.s w gO.fz k) → RepA gO s' v r) → Ends w0 g0 bs out v w := by
      intro r acc v hacc hkeep hout hrep
      split at hout
      · rename_i oxs acc' hox
        split at hout
        · rename_i hnd
          split at hout
          · rename_i obs hob
            simp only [Option.some.injEq] at hout; subst hout
            have hksF : noHand (xs.flatMap (laid fr.s af.keep)) ∧ (acc' = [] ∨ xs.flatMap (laid fr.s af.keep) = []) := by
              rcases hkeep with hk | ⟨ha, hn⟩
              · rw [hk, laid_true]; exact ⟨fun k hk => (by cases hk), .inr rfl⟩
              · refine ⟨hn, .inl ?_⟩
                rw [ha] at hox
                simp only [finX, List.getElem?_nil, Option.some.injEq, Prod.mk.injEq] at hox
                exact hox.2.symm
            obtain ⟨gO, q1, q2, q3, q4⟩ := out_ghost (out := { r := r, b := obs, x := oxs }) hI (finX_hand 13 0 hacc hox) (nodup_of_dedup hnd) hksF.1 hksF.2 hox hob
            obtain ⟨hbl, hbk⟩ := handedBack_get bs.length 0 hob
            refine ⟨gO, q3, hbl, fun j b b' hb hb' => ?_, hrep gO _ (by rw [q1]; exact fzOf_le hI _) (q4.pre (finX_pre 13 0 hox)) fun k hk => by rw [q1]; exact fzOf_frozen _ k hk⟩
            have hj : j < bs.length := (List.getElem?_eq_some_iff.1 hb).1
            have hbj := hbk j b' hb'
            rw [Nat.zero_add] at hbj
            obtain ⟨r1, r2⟩ := hH (900 + j) (by omega) (by omega) hbj.1 _ hbj.2
            refine ⟨(q2 _ (by omega)).trans r1, ?_⟩
            have e : 900 + j - 900 = j := by omega
            simp only [] at r2
            rw [e, List.getD_eq_getElem?_getD, hb] at r2
            simpa using r2
          · cases hout
        · cases hout
      · cases hout
    dsimp only at h
    split at h
    · cases h
    · rename_i r acc hr
      split at hr
      · rename_i x
        obtain ⟨v, q1, q2⟩ := h3 0 x rfl
        have hvs : vs = [v] := by
          match vs, h2, q1 with
          | [u], _, q1 => simp only [List.getElem?_cons_zero, Option.some.injEq] at q1; rw [q1]
        subst hvs
        refine ⟨v, by rw [results_eq]; simp [hrun], ?_⟩
        refine tail r acc v (finV_hand (fun k hk => by cases hk) hr) ?_ h fun gO s' hle hk hF => ?_
        · cases hkp : af.keep with
          | true => exact .inl rfl
          | false =>
            rw [hkp] at hr
            obtain ⟨p1, p2⟩ := finV_same hr
            exact .inr ⟨p1, fun k hk => p2 k (by simpa using hk)⟩
        · exact (finV_rep hI hle hk (fun k hk => hF k (by simpa using hk)) hr q2).toA
      · rename_i hne
        split at hr
        · rename_i ys acc1 hys
          have hsz : vs.length ≠ 1 := fun e => by
            rw [h2] at e
            obtain ⟨x, rfl⟩ := List.length_eq_one_iff.1 e
            exact hne x rfl
          refine ⟨.tuple vs.toArray, by rw [results_eq]; simp [hrun, hsz], ?_⟩
          have hrr : acc = acc1 ∧ ((∃ ps, plainAll ys = some ps ∧ r = .p (.tup ps)) ∨ r = .tu ys) := by
            split at hr
            · rename_i ps hps
              simp only [Option.some.injEq, Prod.mk.injEq] at hr
              exact ⟨hr.2.symm, .inl ⟨ps, hps, hr.1.symm⟩⟩
            · simp only [Option.some.injEq, Prod.mk.injEq] at hr
              exact ⟨hr.2.symm, .inr hr.1.symm⟩
          obtain ⟨rfl, hrr⟩ := hrr
          refine tail r acc _ (finVs_hand (fun k hk => by cases hk) hys) ?_ h fun gO s' hle hk hF => ?_
          · cases hkp : af.keep with
            | true => exact .inl rfl
            | false =>
              rw [hkp] at hys
              obtain ⟨p1, p2⟩ := finVs_same hys
              exact .inr ⟨p1, p2⟩
          · have htv := finVs_rep hI hle hk hF hys ⟨h2, h3⟩
            rcases hrr with ⟨ps, hps, rfl⟩ | rfl
            · rw [plainAll_eq hps] at htv
              exact RepP.tup _ _ htv.ts
            · exact ⟨vs, rfl, htv⟩
        · cases hr

end
end Go.Proofs.YtjlebmnlphjjoaaGreatDoor.Abs
namespace Go.Proofs.YtjlebmnlphjjoaaGreatDoor.Abs

def CallOk (P : Program) (f : FuncId) (as : List AV) (bs : List (List PV)) (out : Out) : Prop := bs.length ≤ 50 → ∀ (w : World) (g : G) (vs : List Value),
  Inv w (inPl g bs) g.fz g (inS bs) w → RepTV g (inS bs) vs as →
  (∀ w', (callFunc (f % 10000) vs.toArray).run P w' = .ok (.enter (f % 10000) vs.toArray) w') ∧ Calls P (f % 10000) vs.toArray w fun e w' => ∃ v, e = .returned v ∧ Ends w g bs out v w'

/-- The table of functions tells the program's own. -/
structure EOk (P : Program) (E : Env) : Prop where
  mixed : P.follows .mixedOrders = true
  fn : ∀ f af, E.fn f = some af → ∃ F ann, FlOk P ann.flats ∧ fnOk P ann F = true ∧ P.funcs[f % 10000]? = some F ∧ af = cFn P ann F
  ext : ∀ f as bs out, E.fn f = none → E.ext f as bs = some out → CallOk P f as bs out

theorem mkS_enum (f : List PV → List AV) : ∀ (bs : List (List PV)) (n k : Nat), (mkS ((bs.zipIdx n).map fun q => (900 + q.2, f q.1)) k) = if k < 900 + n then (0, none) else match bs[k - 900 - n]? with | some b => (0, some (f b)) | none => (0, none)
  | [], n, k => by simp [mkS]
  | b :: bs, n, k => by
    have ih := mkS_enum f bs (n + 1) k
    unfold mkS at ih ⊢
    rw [List.zipIdx_cons, List.map_cons, List.lookup_cons]
    by_cases e : k = 900 + n
    · subst e
      simp
    · have hb : (k == (900 + n)) = false := by simpa using e
      simp only [hb]
      rw [ih]
      by_cases h1 : k < 900 + n
      · rw [if_pos h1, if_pos (by omega)]
      · rw [if_neg h1, if_neg (by omega)]
        have h2 : k - 900 - n = (k - 900 - (n + 1)) + 1 := by omega
        rw [h2, List.getElem?_cons_succ]

theorem enter_s (as : List AV) (bs : List (List PV)) : (enter as bs).s = inS bs := by
  funext k
  have := mkS_enum (fun b => b.map .p) bs 0 k
  rw [Nat.add_zero, Nat.sub_zero] at this
  exact this

theorem mkT_enum : ∀ (as : List AV) (n i : Nat), mkT ((as.zipIdx n).map fun q => (q.2, q.1)) i = if i < n then .un else (as[i - n]?).getD .un
  | [], n, i => by simp [mkT]
  | a :: as, n, i => by
    have ih := mkT_enum as (n + 1) i
    unfold mkT at ih ⊢
    rw [List.zipIdx_cons, List.map_cons, List.lookup_cons]
    by_cases e : i = n
    · subst e; simp
    · have hb : (i == n) = false := by simpa using e
      simp only [hb]
      rw [ih]
      by_cases h1 : i < n
      · rw [if_pos h1, if_pos (by omega)]
      · rw [if_neg h1, if_neg (by omega)]
        have h2 : i - n = (i - (n + 1)) + 1 := by omega
        rw [h2, List.getElem?_cons_succ]

theorem enter_t (as : List AV) (bs : List (List PV)) (i : Nat) : (enter as bs).t i = (as[i]?).getD .un := by
  have := mkT_enum as 0 i
  rw [if_neg (Nat.not_lt_zero _), Nat.sub_zero] at this
  exact this

theorem RepTV.length {g : G} {s : Nat → K} : ∀ {vs : List Value} {xs : List AV}, RepTV g s vs xs → vs.length = xs.length
  | [], [], _ => rfl
  | _ :: _, _ :: _, ⟨_, r⟩ => by simp [RepTV.length r]
  | [], _ :: _, h => h.elim
  | _ :: _, [], h => h.elim

section
variable {P : Program} {E : Env} {C : CFT} {L : CLT}

theorem cFn_code {F : Func} {ann : Ann} {fr : Fr} {r : AX × Fr} (h : exec E C L (cFn P ann F).code fr = some r) : F.name ≠ "runtime.NumGoroutine" ∧ F.params.size + F.nfree ≤ F.ntmps ∧ F.results.toList.all (resOk P) = true ∧ ∃ c, F.body = some c ∧ exec E C L (cCode P F.ntmps ann c ann.loops).1 fr = some r := by
  unfold cFn at h
  simp only [] at h
  split at h
  · simp [exec] at h
  · rename_i hc
    simp only [Bool.or_eq_true, beq_iff_eq, decide_eq_true_eq, Bool.not_eq_true', not_or, Bool.not_eq_false] at hc
    obtain ⟨⟨h1, h2⟩, h3⟩ := hc
    split at h
    · rename_i c hb
      exact ⟨h1, by omega, h3, c, hb, h⟩
    · simp [exec] at h

theorem body_sound (hE : EOk P E) (hC : CSound P C) (hL : LSound P L) : CSound P (body E C L) := by
  intro f as bs out hout hbl w g vs hI hr
  unfold body at hout
  split at hout
  · rename_i hfn
    exact hE.ext f as bs out hfn hout hbl w g vs hI hr
  · rename_i af hfn
    obtain ⟨F, ann, hfl, hfo, hF, rfl⟩ := hE.fn f af hfn
    split at hout
    · rename_i hlen
      have main : ∀ (e : AX) (fr : Fr), (e = .norm ∨ e = .ret) → exec E C L (cFn P ann F).code (enter as bs) = some (e, fr) → finish (cFn P ann F) bs.length fr = some out →
          (∀ w', (callFunc (f % 10000) vs.toArray).run P w' = .ok (.enter (f % 10000) vs.toArray) w') ∧ Calls P (f % 10000) vs.toArray w fun e w' => ∃ v, e = .returned v ∧ Ends w g bs out v w' := by
        intro e fr he hex hfin
        obtain ⟨h1, h2, h3, c, hb, hex⟩ := cFn_code hex
        refine ⟨fun w' => by simp [callFunc, hF, h1, hb], calls_of_wp hF hb ?_⟩
        have hvl := hr.length
        have hnp : (cFn P ann F).np = F.params.size + F.nfree := rfl
        have hle : vs.length ≤ F.ntmps := by rw [hvl, hlen, hnp]; exact h2
        have hrel : Rel { nt := F.ntmps, w0 := w, S := inPl g bs, fz0 := g.fz, hb := g.bk, hl := fun k => (bs.getD (k - 900) []).length } (enter as bs) { tmps := vs.toArray ++ Array.replicate (F.ntmps - vs.toArray.size) undef, defers := [] } w := by
          refine ⟨g, rfl, by simp; omega, fun i => ?_, by rw [enter_s]; exact hI, ?_⟩
          · rw [enter_s, enter_t]
            by_cases hi : i < vs.length
            · have hx : as[i]? = some as[i] := List.getElem?_eq_getElem (by omega)
              obtain ⟨v, q1, q2⟩ := hr.get hx
              rw [hx]
              have hv : (vs.toArray ++ Array.replicate (F.ntmps - vs.toArray.size) undef).getD i undef = v := by
                have h5 : vs[i] = v := by rw [List.getElem?_eq_getElem hi] at q1; simpa using q1
                rw [Array.getD_eq_getD_getElem?, Array.getElem?_append_left (by simpa using hi)]
                simp [hi, h5]
              show RepA g (inS bs) ((vs.toArray ++ Array.replicate (F.ntmps - vs.toArray.size) undef).getD i undef) _
              rw [hv]
              exact q2.toA
            · have hx : as[i]? = none := List.getElem?_eq_none (by omega)
              rw [hx]; trivial
          · intro k hk1 hk2 hv els hels
            rw [enter_s] at hels
            obtain ⟨j, b, rfl, hb1, rfl⟩ := inS_some hels
            refine ⟨rfl, ?_⟩
            have e9 : 900 + j - 900 = j := by omega
            simp only [e9, List.getD_eq_getElem?_getD, hb1]
            simp
        refine exec_wp (X := { nt := F.ntmps, w0 := w, S := inPl g bs, fz0 := g.fz, hb := g.bk, hl := fun k => (bs.getD (k - 900) []).length }) hE.mixed hC hL hfl c ann.loops _ fr e (by simpa only [fnOk, hb] using hfo) hex _ w hrel _ fun a' w' hrel' => ?_
        obtain ⟨g1, hd, hn, ht, hI', hH⟩ := hrel'
        obtain ⟨v, q1, q2⟩ := finish_sound (P := P) (fn := F) (af := cFn P ann F) hbl hI' ht hH h3 rfl hfin
        rcases he with rfl | rfl
        · exact ⟨hd, v, q1, v, rfl, q2⟩
        · exact ⟨hd, v, q1, v, rfl, q2⟩
      split at hout
      · rename_i fr hex
        exact main .norm fr (.inl rfl) hex hout
      · rename_i fr hex
        exact main .ret fr (.inr rfl) hex hout
      · cases hout
    · cases hout

theorem run_sound (hE : EOk P E) : ∀ n, CSound P (runF E n) ∧ LSound P (runL E n)
  | 0 => ⟨fun f as bs out h => by simp [runF] at h, fun X ann c l li lo fr fr' e _ _ h => by simp [runL] at h⟩
  | n + 1 => by
    obtain ⟨h1, h2⟩ := run_sound hE n
    exact ⟨body_sound hE h1 h2, loop_sound hE.mixed h1 h2⟩

theorem CF_fuel {f : FuncId} {as : List AV} {bs : List (List PV)} {out : Out} (h : CF E f as bs = some out) : ∃ n, runF E n f as bs = some out := by
  unfold CF at h
  split at h
  · rename_i hex
    simp only [Option.some.injEq] at h
    exact ⟨hex.choose, by rw [← h]; exact hex.choose_spec.choose_spec⟩
  · cases h

theorem CF_sound (hE : EOk P E) : CSound P (CF E) := fun f as bs out h => by
  obtain ⟨n, hn⟩ := CF_fuel h
  exact (run_sound hE n).1 f as bs out hn

end
end Go.Proofs.YtjlebmnlphjjoaaGreatDoor.Abs
