import Derived.Test.YtjlebmnlphjjoaaGreatDoorAbsC
import Derived.Below
set_option linter.unusedVariables false
set_option linter.unusedSimpArgs false
namespace Go.Proofs.YtjlebmnlphjjoaaGreatDoor.Abs

def CLe (C C' : CFT) : Prop := ∀ f as bs o, C f as bs = some o → C' f as bs = some o
def LLe (L L' : CLT) : Prop := ∀ li lo b fr r, L li lo b fr = some r → L' li lo b fr = some r

section
variable {E : Env} {C C' : CFT} {L L' : CLT}

theorem doCall_mono (h : CLe C C') {s : Nat → K} {d : Nat} {f : FuncId} {as : List AV} {sh : List Shape} {r : AV × List (Nat × K)} (hr : doCall E C s d f as sh = some r) : doCall E C' s d f as sh = some r := by
  unfold doCall at hr ⊢
  cases hm : E.mode f with
  | pure =>
    simp only [hm] at hr ⊢
    split at hr
    · cases hr
    · obtain ⟨o, ho, hr⟩ := Option.bind_eq_some_iff.1 hr
      rw [h _ _ _ _ ho]; exact hr
  | borrow =>
    simp only [hm] at hr ⊢
    split at hr
    · cases hr
    · obtain ⟨o, ho, hr⟩ := Option.bind_eq_some_iff.1 hr
      rw [h _ _ _ _ ho]; exact hr
  | mu =>
    simp only [hm] at hr ⊢
    split at hr
    · cases hr
    · rename_i hl
      rw [if_neg hl]
      split at hr
      · cases hr
      · split at hr
        · cases hr
        · obtain ⟨o, ho, hr⟩ := Option.bind_eq_some_iff.1 hr
          rw [h _ _ _ _ ho]; exact hr

theorem sem_mono (h : CLe C C') {d : Nat} {op : AOp} {g : Opd → AV} {s : Nat → K} {r : AV × List (Nat × K)} (hr : sem E C d op g s = some r) : sem E C' d op g s = some r := by
  cases op with
  | call f args sh =>
    simp only [sem] at hr ⊢
    split at hr
    · exact doCall_mono h hr
    · cases hr
  | len st x => cases st <;> exact hr
  | _ => exact hr

theorem run_mono (h : CLe C C') : ∀ (l : List AOper) {fr fr' : Fr}, run E C l fr = some fr' → run E C' l fr = some fr'
  | [], _, _, hr => hr
  | o :: l, fr, fr', hr => by
    simp only [run] at hr ⊢
    split at hr
    · rename_i hw
      split at hr
      · rename_i x us hs
        rw [sem_mono h hs]
        exact run_mono h l hr
      · cases hr
    · exact run_mono h l hr
    · cases hr

theorem stp_mono (h : CLe C C') {o : AOper} {fr : Fr} {r : Fr × List Nat × List Nat} (hr : stp E C o fr = some r) : stp E C' o fr = some r := by
  unfold stp at hr ⊢
  split at hr
  · split at hr
    · rename_i x us hs
      rw [sem_mono h hs]; exact hr
    · cases hr
  · exact hr
  · cases hr

theorem steps_mono (h : CLe C C') : ∀ (l : List AOper) {fr : Fr} {acc : List (List Nat × List Nat)} {r : Fr × List (List Nat × List Nat)}, steps E C l fr acc = some r → steps E C' l fr acc = some r
  | [], _, _, _, hr => hr
  | o :: l, fr, acc, r, hr => by
    simp only [steps] at hr ⊢
    split at hr
    · rename_i fr1 f wr h1
      rw [stp_mono h h1]
      exact steps_mono h l hr
    · cases hr

theorem exec_mono (h : CLe C C') (hL : LLe L L') : ∀ (c : AC) {fr : Fr} {r : AX × Fr}, exec E C L c fr = some r → exec E C' L' c fr = some r := by
  intro c
  induction c with
  | skip => intro fr r hr; exact hr
  | region dr ops bef =>
    intro fr r hr
    cases dr with
    | false =>
      simp only [exec] at hr ⊢
      split at hr
      · rename_i fr1 h1; rw [run_mono h ops h1]; exact hr
      · cases hr
    | true =>
      simp only [exec] at hr ⊢
      split at hr
      · rename_i fr1 recs h1; rw [steps_mono h ops h1]; exact hr
      · cases hr
  | seq a b iha ihb =>
    intro fr r hr
    simp only [exec] at hr ⊢
    split at hr
    · rename_i fr1 h1; rw [iha h1]; exact ihb hr
    · rename_i hne
      rw [iha hr]
      obtain ⟨e, fr1⟩ := r
      cases e with
      | norm => exact absurd hr (hne fr1)
      | _ => rfl
  | cond c x y ihx ihy =>
    intro fr r hr
    simp only [exec] at hr ⊢
    split at hr
    · exact ihx hr
    · exact ihy hr
    · cases hr
  | block id b ih =>
    intro fr r hr
    simp only [exec] at hr ⊢
    split at hr
    · rename_i i fr1 h1; rw [ih h1]; exact hr
    · rename_i hne
      rw [ih hr]
      obtain ⟨e, fr1⟩ := r
      cases e with
      | ex i => exact absurd hr (hne i fr1)
      | _ => rfl
  | loop li lo b ih => intro fr r hr; simp only [exec] at hr ⊢; exact hL _ _ _ _ _ hr
  | exit id => intro fr r hr; exact hr
  | ret => intro fr r hr; exact hr
  | no => intro fr r hr; exact hr

theorem body_mono (h : CLe C C') (hL : LLe L L') : CLe (body E C L) (body E C' L') := by
  intro f as bs o ho
  unfold body at ho ⊢
  split at ho
  · exact ho
  · rename_i af haf
    split at ho
    · rename_i hl
      rw [if_pos hl]
      split at ho
      · rename_i fr h1; rw [exec_mono h hL _ h1]; exact ho
      · rename_i fr h1; rw [exec_mono h hL _ h1]; exact ho
      · cases ho
    · cases ho

theorem loop_mono (h : CLe C C') (hL : LLe L L') : LLe (loop E C L) (loop E C' L') := by
  intro li lo b fr r hr
  unfold loop at hr ⊢
  split at hr
  · rename_i fr1 h1; rw [exec_mono h hL _ h1]; exact hL _ _ _ _ _ hr
  · rename_i e fr1 hne h1
    rw [exec_mono h hL _ h1]
    cases e with
    | norm => exact (hne rfl).elim
    | _ => exact hr
  · cases hr

theorem run_le (E : Env) : ∀ n, CLe (runF E n) (runF E (n + 1)) ∧ LLe (runL E n) (runL E (n + 1))
  | 0 => ⟨fun f as bs o h => by simp [runF] at h, fun li lo b fr r h => by simp [runL] at h⟩
  | n + 1 => by
    obtain ⟨h1, h2⟩ := run_le E n
    exact ⟨body_mono h1 h2, loop_mono h1 h2⟩

theorem runF_le {n m : Nat} (h : n ≤ m) : CLe (runF E n) (runF E m) := by
  induction m with
  | zero => have : n = 0 := by omega
            subst this; exact fun _ _ _ _ h => h
  | succ m ih =>
    by_cases e : n = m + 1
    · subst e; exact fun _ _ _ _ h => h
    · exact fun f as bs o ho => (run_le E m).1 _ _ _ _ (ih (by omega) _ _ _ _ ho)

theorem runL_le {n m : Nat} (h : n ≤ m) : LLe (runL E n) (runL E m) := by
  induction m with
  | zero => have : n = 0 := by omega
            subst this; exact fun _ _ _ _ _ h => h
  | succ m ih =>
    by_cases e : n = m + 1
    · subst e; exact fun _ _ _ _ _ h => h
    · exact fun f as bs o r ho => (run_le E m).2 _ _ _ _ _ (ih (by omega) _ _ _ _ _ ho)

theorem CF_iff {f : FuncId} {as : List AV} {bs : List (List PV)} {o : Out} : CF E f as bs = some o ↔ ∃ n, runF E n f as bs = some o := by
  refine ⟨CF_fuel, fun ⟨n, hn⟩ => ?_⟩
  unfold CF
  have hex : ∃ n r, runF E n f as bs = some r := ⟨n, o, hn⟩
  rw [dif_pos hex]
  have h1 := hex.choose_spec.choose_spec
  rcases Nat.le_total n hex.choose with hle | hle
  · have := runF_le hle _ _ _ _ hn
    rw [h1] at this; exact this
  · have := runF_le hle _ _ _ _ h1
    rw [hn] at this; exact this.symm

theorem CL_iff {li lo : List Nat} {b : AC} {fr : Fr} {r : AX × Fr} : CL E li lo b fr = some r ↔ ∃ n, runL E n li lo b fr = some r := by
  constructor
  · intro h
    unfold CL at h
    split at h
    · rename_i hex
      simp only [Option.some.injEq] at h
      exact ⟨hex.choose, by rw [← h]; exact hex.choose_spec.choose_spec⟩
    · cases h
  · rintro ⟨n, hn⟩
    unfold CL
    have hex : ∃ n r, runL E n li lo b fr = some r := ⟨n, r, hn⟩
    rw [dif_pos hex]
    have h1 := hex.choose_spec.choose_spec
    rcases Nat.le_total n hex.choose with hle | hle
    · have := runL_le hle _ _ _ _ _ hn
      rw [h1] at this; exact this
    · have := runL_le hle _ _ _ _ _ h1
      rw [hn] at this; exact this.symm

theorem doCall_fuel {s : Nat → K} {d : Nat} {f : FuncId} {as : List AV} {sh : List Shape} {r : AV × List (Nat × K)} (hr : doCall E (CF E) s d f as sh = some r) : ∃ n, doCall E (runF E n) s d f as sh = some r := by
  unfold doCall at hr
  cases hm : E.mode f with
  | pure =>
    simp only [hm] at hr
    split at hr
    · cases hr
    · rename_i ps hps
      obtain ⟨o, ho, hr⟩ := Option.bind_eq_some_iff.1 hr
      obtain ⟨n, hn⟩ := CF_iff.1 ho
      refine ⟨n, ?_⟩
      unfold doCall
      simp only [hm, hps, hn]; exact hr
  | borrow =>
    simp only [hm] at hr
    split at hr
    · cases hr
    · rename_i ps hps
      obtain ⟨o, ho, hr⟩ := Option.bind_eq_some_iff.1 hr
      obtain ⟨n, hn⟩ := CF_iff.1 ho
      refine ⟨n, ?_⟩
      unfold doCall
      simp only [hm, hps, hn]; exact hr
  | mu =>
    simp only [hm] at hr
    split at hr
    · cases hr
    · rename_i hl
      split at hr
      · cases hr
      · rename_i as' has
        split at hr
        · cases hr
        · rename_i bs hbs
          obtain ⟨o, ho, hr⟩ := Option.bind_eq_some_iff.1 hr
          obtain ⟨n, hn⟩ := CF_iff.1 ho
          refine ⟨n, ?_⟩
          unfold doCall
          simp only [hm, if_neg hl, has, hbs, hn]; exact hr

theorem sem_fuel {d : Nat} {op : AOp} {g : Opd → AV} {s : Nat → K} {r : AV × List (Nat × K)} (hr : sem E (CF E) d op g s = some r) : ∃ n, sem E (runF E n) d op g s = some r := by
  cases op with
  | call f args sh =>
    simp only [sem] at hr
    split at hr
    · rename_i h as sh' hc
      obtain ⟨n, hn⟩ := doCall_fuel hr
      exact ⟨n, by simp only [sem, hc]; exact hn⟩
    · cases hr
  | len st x => cases st <;> exact ⟨0, hr⟩
  | _ => exact ⟨0, hr⟩

theorem run_fuel : ∀ (l : List AOper) {fr fr' : Fr}, run E (CF E) l fr = some fr' → ∃ n, run E (runF E n) l fr = some fr'
  | [], _, _, hr => ⟨0, hr⟩
  | o :: l, fr, fr', hr => by
    simp only [run] at hr
    split at hr
    · rename_i hw
      split at hr
      · rename_i x us hs
        obtain ⟨n, hn⟩ := sem_fuel hs
        obtain ⟨m, hm⟩ := run_fuel l hr
        refine ⟨max n m, ?_⟩
        simp only [run, hw]
        rw [sem_mono (runF_le (Nat.le_max_left n m)) hn]
        exact run_mono (runF_le (Nat.le_max_right n m)) l hm
      · cases hr
    · rename_i hw
      obtain ⟨m, hm⟩ := run_fuel l hr
      exact ⟨m, by simp only [run, hw]; exact hm⟩
    · cases hr

theorem stp_fuel {o : AOper} {fr : Fr} {r : Fr × List Nat × List Nat} (hr : stp E (CF E) o fr = some r) : ∃ n, stp E (runF E n) o fr = some r := by
  unfold stp at hr
  split at hr
  · rename_i hw
    split at hr
    · rename_i x us hs
      obtain ⟨n, hn⟩ := sem_fuel hs
      exact ⟨n, by unfold stp; simp only [hw, hn]; exact hr⟩
    · cases hr
  · rename_i hw
    exact ⟨0, by unfold stp; simp only [hw]; exact hr⟩
  · cases hr

theorem steps_fuel : ∀ (l : List AOper) {fr : Fr} {acc : List (List Nat × List Nat)} {r : Fr × List (List Nat × List Nat)}, steps E (CF E) l fr acc = some r → ∃ n, steps E (runF E n) l fr acc = some r
  | [], _, _, _, hr => ⟨0, hr⟩
  | o :: l, fr, acc, r, hr => by
    simp only [steps] at hr
    split at hr
    · rename_i fr1 f wr h1
      obtain ⟨n, hn⟩ := stp_fuel h1
      obtain ⟨m, hm⟩ := steps_fuel l hr
      refine ⟨max n m, ?_⟩
      simp only [steps]
      rw [stp_mono (runF_le (Nat.le_max_left n m)) hn]
      exact steps_mono (runF_le (Nat.le_max_right n m)) l hm
    · cases hr

theorem exec_fuel : ∀ (c : AC) {fr : Fr} {r : AX × Fr}, exec E (CF E) (CL E) c fr = some r → ∃ n, exec E (runF E n) (runL E n) c fr = some r := by
  intro c
  induction c with
  | skip => intro fr r hr; exact ⟨0, hr⟩
  | region dr ops bef =>
    intro fr r hr
    cases dr with
    | false =>
      simp only [exec] at hr
      split at hr
      · rename_i fr1 h1
        obtain ⟨n, hn⟩ := run_fuel ops h1
        exact ⟨n, by simp only [exec, hn]; exact hr⟩
      · cases hr
    | true =>
      simp only [exec] at hr
      split at hr
      · rename_i fr1 recs h1
        obtain ⟨n, hn⟩ := steps_fuel ops h1
        exact ⟨n, by simp only [exec, hn]; exact hr⟩
      · cases hr
  | seq a b iha ihb =>
    intro fr r hr
    simp only [exec] at hr
    split at hr
    · rename_i fr1 h1
      obtain ⟨n, hn⟩ := iha h1
      obtain ⟨m, hm⟩ := ihb hr
      refine ⟨max n m, ?_⟩
      simp only [exec]
      rw [exec_mono (runF_le (Nat.le_max_left n m)) (runL_le (Nat.le_max_left n m)) a hn]
      exact exec_mono (runF_le (Nat.le_max_right n m)) (runL_le (Nat.le_max_right n m)) b hm
    · rename_i hne
      obtain ⟨n, hn⟩ := iha hr
      refine ⟨n, ?_⟩
      simp only [exec, hn]
      obtain ⟨e, fr1⟩ := r
      cases e with
      | norm => exact absurd hr (hne fr1)
      | _ => rfl
  | cond c x y ihx ihy =>
    intro fr r hr
    simp only [exec] at hr
    split at hr
    · rename_i hb; obtain ⟨n, hn⟩ := ihx hr; exact ⟨n, by simp only [exec, hb]; exact hn⟩
    · rename_i hb; obtain ⟨n, hn⟩ := ihy hr; exact ⟨n, by simp only [exec, hb]; exact hn⟩
    · cases hr
  | block id b ih =>
    intro fr r hr
    simp only [exec] at hr
    split at hr
    · rename_i i fr1 h1
      obtain ⟨n, hn⟩ := ih h1
      exact ⟨n, by simp only [exec, hn]; exact hr⟩
    · rename_i hne
      obtain ⟨n, hn⟩ := ih hr
      refine ⟨n, ?_⟩
      simp only [exec, hn]
      obtain ⟨e, fr1⟩ := r
      cases e with
      | ex i => exact absurd hr (hne i fr1)
      | _ => rfl
  | loop li lo b ih => intro fr r hr; simp only [exec] at hr; obtain ⟨n, hn⟩ := CL_iff.1 hr; exact ⟨n, by simp only [exec]; exact hn⟩
  | exit id => intro fr r hr; exact ⟨0, hr⟩
  | ret => intro fr r hr; exact ⟨0, hr⟩
  | no => intro fr r hr; exact ⟨0, hr⟩

theorem runF_CF (n : Nat) : CLe (runF E n) (CF E) := fun _ _ _ _ h => CF_iff.2 ⟨n, h⟩
theorem runL_CL (n : Nat) : LLe (runL E n) (CL E) := fun _ _ _ _ _ h => CL_iff.2 ⟨n, h⟩

theorem opt_ext {α : Type} {a b : Option α} (h : ∀ x, a = some x ↔ b = some x) : a = b := by
  cases a with
  | none => cases b with
    | none => rfl
    | some y => exact (h y).2 rfl
  | some x => exact ((h x).1 rfl).symm

/-- A function is what its code does. -/
theorem CF_eq (E : Env) (f : FuncId) (as : List AV) (bs : List (List PV)) : CF E f as bs = body E (CF E) (CL E) f as bs := by
  refine opt_ext fun o => ⟨fun h => ?_, fun h => ?_⟩
  · obtain ⟨n, hn⟩ := CF_iff.1 h
    cases n with
    | zero => simp [runF] at hn
    | succ n => exact body_mono (runF_CF n) (runL_CL n) _ _ _ _ hn
  · unfold body at h
    split at h
    · rename_i hfn
      exact CF_iff.2 ⟨1, by simp only [runF, body, hfn]; exact h⟩
    · rename_i af haf
      split at h
      · rename_i hl
        split at h
        · rename_i fr h1
          obtain ⟨n, hn⟩ := exec_fuel _ h1
          exact CF_iff.2 ⟨n + 1, by simp only [runF, body, haf, if_pos hl, hn]; exact h⟩
        · rename_i fr h1
          obtain ⟨n, hn⟩ := exec_fuel _ h1
          exact CF_iff.2 ⟨n + 1, by simp only [runF, body, haf, if_pos hl, hn]; exact h⟩
        · cases h
      · cases h

/-- A loop is one round and the loop. -/
theorem CL_eq (E : Env) (li lo : List Nat) (b : AC) (fr : Fr) : CL E li lo b fr = loop E (CF E) (CL E) li lo b fr := by
  refine opt_ext fun r => ⟨fun h => ?_, fun h => ?_⟩
  · obtain ⟨n, hn⟩ := CL_iff.1 h
    cases n with
    | zero => simp [runL] at hn
    | succ n => exact loop_mono (runF_CF n) (runL_CL n) _ _ _ _ _ hn
  · unfold loop at h
    split at h
    · rename_i fr1 h1
      obtain ⟨n, hn⟩ := exec_fuel _ h1
      obtain ⟨m, hm⟩ := CL_iff.1 h
      refine CL_iff.2 ⟨max n m + 1, ?_⟩
      simp only [runL, loop]
      rw [exec_mono (runF_le (Nat.le_max_left n m)) (runL_le (Nat.le_max_left n m)) b hn]
      exact runL_le (Nat.le_max_right n m) _ _ _ _ _ hm
    · rename_i e fr1 hne h1
      obtain ⟨n, hn⟩ := exec_fuel _ h1
      refine CL_iff.2 ⟨n + 1, ?_⟩
      simp only [runL, loop, hn]
      cases e with
      | norm => exact (hne rfl).elim
      | _ => exact h
    · cases h

end
end Go.Proofs.YtjlebmnlphjjoaaGreatDoor.Abs
namespace Go.Proofs.YtjlebmnlphjjoaaGreatDoor.Abs
open Go.RowKit (Below)

/-- Everything that lies in memory. -/
def allFz (W : World) : Fz := fun b o => W.cell? ⟨b, o, none⟩

section
variable {P : Program} {E : Env}

/-- A told call of plain values, from any world. -/
theorem top_call (hE : EOk P E) {f : FuncId} {ps : List PV} {x : PV} {out : Out} {vs : List Value} {W : World} (hr : RepTs (allFz W) vs ps) (h : CF E f (ps.map .p) [] = some out) (hx : out.r = .p x) :
    Calls P (f % 10000) vs.toArray W fun e W' => ∃ v fz, e = .returned v ∧ RepP fz v x ∧ Below W.heap.size W W' := by
  have no : ∀ {k : Nat} {els : List AV}, (inS [] k).2 = some els → False := fun hk => by
    obtain ⟨j, b, _, h2, _⟩ := inS_some hk; simp at h2
  have hI : Inv W (inPl { fz := allFz W, bk := fun _ => none } []) (allFz W) { fz := allFz W, bk := fun _ => none } (inS []) W :=
    ⟨rfl, rfl, ⟨rfl, Nat.le_refl _⟩, Nat.le_refl _, fun _ _ _ => rfl, Fz.le_refl _, fun _ _ _ hv => hv, fun _ _ _ hv => .inl hv, fun k els hk => (no hk).elim, fun k els p hk => (no hk).elim, fun k k' els els' p p' hk => (no hk).elim⟩
  obtain ⟨_, hc⟩ := CF_sound hE f _ _ _ h (by simp) W { fz := allFz W, bk := fun _ => none } vs hI (RepTs.tv (g := { fz := allFz W, bk := fun _ => none }) hr)
  refine hc.mono fun e W' he => ?_
  obtain ⟨v, rfl, g', hI', _, _, hrep⟩ := he
  rw [hx] at hrep
  refine ⟨v, g'.fz, rfl, hrep, hI'.os, hI'.tape, hI'.output.1, hI'.size, fun k hk => hI'.old k hk ?_⟩
  rintro ⟨j, p, hj, _⟩
  simp at hj

theorem top_true (hE : EOk P E) {f : FuncId} {ps : List PV} {out : Out} {vs : List Value} {W : World} (hr : RepTs (allFz W) vs ps) (h : CF E f (ps.map .p) [] = some out) (hx : out.r = .p (.bool true)) :
    Calls P (f % 10000) vs.toArray W fun e W' => e = .returned (.bool true) ∧ Below W.heap.size W W' :=
  (top_call hE hr h hx).mono fun e W' ⟨v, fz, he, hv, hb⟩ => by cases hv; exact ⟨he, hb⟩

/-- A row of numbers in memory. -/
theorem rep_ints {W : World} {k : IntKind} {a : Option Addr} {len cap : Nat} {zs : List Int} (hsp : ∀ x, a = some x → x.spot = none)
    (hrow : (a = none ∧ len = 0 ∧ cap = 0) ∨ ∃ x, a = some x ∧ len ≤ cap ∧ len ≤ zs.length ∧ ∀ i, i < zs.length → W.cell? (x.add i) = some (.int k (zs.getD i 0))) :
    RepP (allFz W) (.slice a len cap) (.ls 1 ((zs.take len).map (.int k))) := by
  rcases hrow with ⟨rfl, rfl, rfl⟩ | ⟨x, rfl, hl, hz, hc⟩
  · simp only [List.take_zero, List.map_nil]; exact .lsn 1
  · obtain ⟨b, o, sp⟩ := x
    have hs : sp = none := hsp _ rfl
    subst hs
    have hlen : ((zs.take len).map (PV.int k)).length = len := by simp; omega
    have hels : RepEls (allFz W) b o 1 ((zs.take len).map (.int k)) := by
      refine repEls_of _ o fun i x hx => ?_
      rw [List.getElem?_map, List.getElem?_take] at hx
      split at hx
      · rename_i hi
        have hi' : i < zs.length := by omega
        rw [List.getElem?_eq_getElem hi'] at hx
        simp only [Option.map_some, Option.some.injEq] at hx; subst hx
        refine ⟨rfl, ?_⟩
        have := hc i hi'
        rw [add_lit] at this
        rw [List.getD_eq_getElem?_getD, List.getElem?_eq_getElem hi'] at this
        refine .cons b _ (.int k zs[i]) _ [] (by simpa [allFz] using this) (.int _ _) rfl (.nil _ _)
      · simp at hx
    have := RepP.ls (fz := allFz W) b o cap 1 ((zs.take len).map (.int k)) hels (by rw [hlen]; exact hl)
    rw [hlen] at this
    exact this

end
end Go.Proofs.YtjlebmnlphjjoaaGreatDoor.Abs
namespace Go.Proofs.YtjlebmnlphjjoaaGreatDoor.Abs

/-! ### Forms that simp reckons with: one step at a time, what is not yet reached stays unseen -/
section
variable {E : Env} {C : CFT} {L : CLT} {t : Nat → AV} {s : Nat → K}

def seqK (E : Env) (C : CFT) (L : CLT) (b : AC) (x : Option (AX × Fr)) : Option (AX × Fr) :=
  match x with | some (.norm, fr) => exec E C L b fr | r => r
theorem seqK_congr {b : AC} {x x' : Option (AX × Fr)} (h : x = x') : seqK E C L b x = seqK E C L b x' := by rw [h]
theorem seqK_norm {fr : Fr} {b : AC} : seqK E C L b (some (.norm, fr)) = exec E C L b fr := rfl
theorem seqK_ex {i : Nat} {fr : Fr} {b : AC} : seqK E C L b (some (.ex i, fr)) = some (.ex i, fr) := rfl
theorem seqK_ret {fr : Fr} {b : AC} : seqK E C L b (some (.ret, fr)) = some (.ret, fr) := rfl
theorem seqK_ite {c : Prop} [Decidable c] {x y : Option (AX × Fr)} {b : AC} : seqK E C L b (if c then x else y) = if c then seqK E C L b x else seqK E C L b y := by split <;> rfl
theorem seqK_none {b : AC} : seqK E C L b none = none := rfl

def blkK (id : Nat) (x : Option (AX × Fr)) : Option (AX × Fr) :=
  match x with | some (.ex i, fr) => if i = id then some (.norm, fr) else some (.ex i, fr) | r => r
theorem blkK_norm {id : Nat} {fr : Fr} : blkK id (some (.norm, fr)) = some (.norm, fr) := rfl
theorem blkK_ret {id : Nat} {fr : Fr} : blkK id (some (.ret, fr)) = some (.ret, fr) := rfl
theorem blkK_ex {id i : Nat} {fr : Fr} : blkK id (some (.ex i, fr)) = if i = id then some (.norm, fr) else some (.ex i, fr) := rfl
theorem blkK_ite {id : Nat} {c : Prop} [Decidable c] {a b : Option (AX × Fr)} : blkK id (if c then a else b) = if c then blkK id a else blkK id b := by split <;> rfl

/-- A way by what a value says. -/
def cndK {α : Type} (x : AV) (a b : Option α) : Option α :=
  match x with | .p (.bool true) => a | .p (.bool false) => b | _ => none
theorem cndK_congr {α : Type} {x x' : AV} {a b : Option α} (h : x = x') : cndK x a b = cndK x' a b := by rw [h]
theorem cndK_t {α : Type} {a b : Option α} : cndK (.p (.bool true)) a b = a := rfl
theorem cndK_f {α : Type} {a b : Option α} : cndK (.p (.bool false)) a b = b := rfl
theorem cndK_b {α : Type} {v : Bool} {a b : Option α} : cndK (.p (.bool v)) a b = if v = true then a else b := by cases v <;> rfl

theorem exec_skip {fr : Fr} : exec E C L .skip fr = some (.norm, fr) := rfl
theorem exec_exit {fr : Fr} {i : Nat} : exec E C L (.exit i) fr = some (.ex i, fr) := rfl
theorem exec_ret {fr : Fr} : exec E C L .ret fr = some (.ret, fr) := rfl
theorem exec_seq {fr : Fr} {a b : AC} : exec E C L (.seq a b) fr = seqK E C L b (exec E C L a fr) := rfl
theorem exec_cond {c : Opd} {x y : AC} : exec E C L (.cond c x y) ⟨t, s⟩ = cndK (gv t c) (exec E C L x ⟨t, s⟩) (exec E C L y ⟨t, s⟩) := rfl
theorem exec_block {fr : Fr} {id : Nat} {b : AC} : exec E C L (.block id b) fr = blkK id (exec E C L b fr) := rfl
theorem exec_loop {fr : Fr} {li lo : List Nat} {b : AC} : exec E C L (.loop li lo b) fr = L li lo b (clean li fr) := rfl

/-- What comes of the operations of a region. -/
def nrmK (x : Option Fr) : Option (AX × Fr) := match x with | some fr => some (.norm, fr) | none => none
theorem nrmK_some {fr : Fr} : nrmK (some fr) = some (.norm, fr) := rfl
theorem nrmK_ite {c : Prop} [Decidable c] {a b : Option Fr} : nrmK (if c then a else b) = if c then nrmK a else nrmK b := by split <;> rfl
theorem exec_run {fr : Fr} {ops : List AOper} {bef : List Nat} : exec E C L (.region false ops bef) fr = nrmK (run E C ops fr) := by
  show (match run E C ops fr with | some fr' => some (AX.norm, fr') | none => none) = _
  unfold nrmK; rfl
def drwK (bef : List Nat) (n : Nat) (x : Option (Fr × List (List Nat × List Nat))) : Option (AX × Fr) :=
  match x with | some (fr', recs) => if pairsOk bef n recs = true then some (.norm, fr') else none | none => none
theorem drwK_some {bef : List Nat} {n : Nat} {fr : Fr} {recs : List (List Nat × List Nat)} : drwK bef n (some (fr, recs)) = if pairsOk bef n recs = true then some (.norm, fr) else none := rfl
theorem drwK_ite {bef : List Nat} {n : Nat} {c : Prop} [Decidable c] {a b : Option (Fr × List (List Nat × List Nat))} : drwK bef n (if c then a else b) = if c then drwK bef n a else drwK bef n b := by split <;> rfl
theorem exec_draw {fr : Fr} {ops : List AOper} {bef : List Nat} : exec E C L (.region true ops bef) fr = drwK bef (ops.length - 1) (steps E C ops fr []) := by
  show (match steps E C ops fr [] with | some (fr', recs) => if pairsOk bef (ops.length - 1) recs = true then some (AX.norm, fr') else none | none => none) = _
  unfold drwK; rfl

/-- A value, and what it turns. -/
def runK (E : Env) (C : CFT) (d : Nat) (r : List AOper) (t : Nat → AV) (s : Nat → K) (x : Option (AV × List (Nat × K))) : Option Fr :=
  match x with | some (x, us) => run E C r ⟨upd t d x, updAll s us⟩ | none => none
theorem runK_congr {d : Nat} {r : List AOper} {x x' : Option (AV × List (Nat × K))} (h : x = x') : runK E C d r t s x = runK E C d r t s x' := by rw [h]
theorem runK_some {d : Nat} {r : List AOper} {x : AV} {us : List (Nat × K)} : runK E C d r t s (some (x, us)) = run E C r ⟨upd t d x, updAll s us⟩ := rfl
theorem runK_none {d : Nat} {r : List AOper} : runK E C d r t s none = none := rfl
theorem runK_ite {d : Nat} {r : List AOper} {c : Prop} [Decidable c] {a b : Option (AV × List (Nat × K))} : runK E C d r t s (if c then a else b) = if c then runK E C d r t s a else runK E C d r t s b := by split <;> rfl
def runN (E : Env) (C : CFT) (r : List AOper) (t : Nat → AV) (s : Nat → K) (x : Option (AV × List (Nat × K))) : Option Fr :=
  match x with | some (_, us) => run E C r ⟨t, updAll s us⟩ | none => none
theorem runN_congr {r : List AOper} {x x' : Option (AV × List (Nat × K))} (h : x = x') : runN E C r t s x = runN E C r t s x' := by rw [h]
theorem runN_some {r : List AOper} {x : AV} {us : List (Nat × K)} : runN E C r t s (some (x, us)) = run E C r ⟨t, updAll s us⟩ := rfl
theorem runN_none {r : List AOper} : runN E C r t s none = none := rfl
theorem runN_ite {r : List AOper} {c : Prop} [Decidable c] {a b : Option (AV × List (Nat × K))} : runN E C r t s (if c then a else b) = if c then runN E C r t s a else runN E C r t s b := by split <;> rfl
def stpK (E : Env) (C : CFT) (d : Nat) (op : AOp) (r : List AOper) (t : Nat → AV) (s : Nat → K) (acc : List (List Nat × List Nat)) (x : Option (AV × List (Nat × K))) : Option (Fr × List (List Nat × List Nat)) :=
  match x with | some (x, us) => steps E C r ⟨upd t d x, updAll s us⟩ ((foot d op (gv t) s, us.map (·.1)) :: acc) | none => none
theorem stpK_congr {d : Nat} {op : AOp} {r : List AOper} {acc : List (List Nat × List Nat)} {x x' : Option (AV × List (Nat × K))} (h : x = x') : stpK E C d op r t s acc x = stpK E C d op r t s acc x' := by rw [h]
theorem stpK_some {d : Nat} {op : AOp} {r : List AOper} {acc : List (List Nat × List Nat)} {x : AV} {us : List (Nat × K)} : stpK E C d op r t s acc (some (x, us)) = steps E C r ⟨upd t d x, updAll s us⟩ ((foot d op (gv t) s, us.map (·.1)) :: acc) := rfl
theorem stpK_none {d : Nat} {op : AOp} {r : List AOper} {acc : List (List Nat × List Nat)} : stpK E C d op r t s acc none = none := rfl
theorem stpK_ite {d : Nat} {op : AOp} {r : List AOper} {acc : List (List Nat × List Nat)} {c : Prop} [Decidable c] {a b : Option (AV × List (Nat × K))} : stpK E C d op r t s acc (if c then a else b) = if c then stpK E C d op r t s acc a else stpK E C d op r t s acc b := by split <;> rfl
def stpN (E : Env) (C : CFT) (op : AOp) (r : List AOper) (t : Nat → AV) (s : Nat → K) (acc : List (List Nat × List Nat)) (x : Option (AV × List (Nat × K))) : Option (Fr × List (List Nat × List Nat)) :=
  match x with | some (_, us) => steps E C r ⟨t, updAll s us⟩ ((foot 999 op (gv t) s, us.map (·.1)) :: acc) | none => none
theorem stpN_congr {op : AOp} {r : List AOper} {acc : List (List Nat × List Nat)} {x x' : Option (AV × List (Nat × K))} (h : x = x') : stpN E C op r t s acc x = stpN E C op r t s acc x' := by rw [h]
theorem stpN_some {op : AOp} {r : List AOper} {acc : List (List Nat × List Nat)} {x : AV} {us : List (Nat × K)} : stpN E C op r t s acc (some (x, us)) = steps E C r ⟨t, updAll s us⟩ ((foot 999 op (gv t) s, us.map (·.1)) :: acc) := rfl
theorem stpN_none {op : AOp} {r : List AOper} {acc : List (List Nat × List Nat)} : stpN E C op r t s acc none = none := rfl
theorem stpN_ite {op : AOp} {r : List AOper} {acc : List (List Nat × List Nat)} {c : Prop} [Decidable c] {a b : Option (AV × List (Nat × K))} : stpN E C op r t s acc (if c then a else b) = if c then stpN E C op r t s acc a else stpN E C op r t s acc b := by split <;> rfl

def gdK {α : Type} (x : AV) (w : Bool) (a b : Option α) : Option α :=
  match x with | .p (.bool v) => if v = w then a else b | .p (.tup _) => b | _ => none
theorem gdK_congr {α : Type} {x x' : AV} {w : Bool} {a b : Option α} (h : x = x') : gdK x w a b = gdK x' w a b := by rw [h]
theorem gdK_s {α : Type} {l : List PV} {w : Bool} {a b : Option α} : gdK (.p (.tup l)) w a b = b := rfl
theorem gdK_t {α : Type} {v : Bool} {a b : Option α} : gdK (.p (.bool v)) true a b = if v = true then a else b := rfl
theorem gdK_f {α : Type} {v : Bool} {a b : Option α} : gdK (.p (.bool v)) false a b = if v = true then b else a := by cases v <;> rfl

theorem run_nil {fr : Fr} : run E C [] fr = some fr := rfl
theorem run_some {d : Nat} {op : AOp} {r : List AOper} : run E C (⟨some d, op, none⟩ :: r) ⟨t, s⟩ = runK E C d r t s (sem E C d op (gv t) s) := by
  show (match sem E C d op (gv t) s with | some (x, us) => run E C r { t := upd t d x, s := updAll s us } | none => none) = _
  unfold runK; rfl
theorem run_none {op : AOp} {r : List AOper} : run E C (⟨none, op, none⟩ :: r) ⟨t, s⟩ = runN E C r t s (sem E C 999 op (gv t) s) := by
  show (match sem E C 999 op (gv t) s with | some (x, us) => run E C r { t := t, s := updAll s us } | none => none) = _
  unfold runN; rfl
theorem run_guard {d : Nat} {op : AOp} {r : List AOper} {j : Nat} {w : Bool} : run E C (⟨some d, op, some (j, w)⟩ :: r) ⟨t, s⟩ = gdK (t j) w (run E C (⟨some d, op, none⟩ :: r) ⟨t, s⟩) (run E C r ⟨upd t d (.p (.tup [])), s⟩) := by
  rw [run]
  simp only [wanted]
  cases t j with
  | p x => cases x with
    | bool v => cases v <;> cases w <;> rfl
    | _ => rfl
  | _ => rfl
theorem run_guard0 {op : AOp} {r : List AOper} {j : Nat} {w : Bool} : run E C (⟨none, op, some (j, w)⟩ :: r) ⟨t, s⟩ = gdK (t j) w (run E C (⟨none, op, none⟩ :: r) ⟨t, s⟩) (run E C r ⟨t, s⟩) := by
  rw [run]
  simp only [wanted]
  cases t j with
  | p x => cases x with
    | bool v => cases v <;> cases w <;> rfl
    | _ => rfl
  | _ => rfl

theorem steps_nil {fr : Fr} {acc : List (List Nat × List Nat)} : steps E C [] fr acc = some (fr, acc) := rfl
theorem steps_some {d : Nat} {op : AOp} {r : List AOper} {acc : List (List Nat × List Nat)} : steps E C (⟨some d, op, none⟩ :: r) ⟨t, s⟩ acc = stpK E C d op r t s acc (sem E C d op (gv t) s) := by
  rw [steps]
  simp only [stp, wanted, Option.getD]
  unfold stpK
  cases sem E C d op (gv t) s with
  | none => rfl
  | some q => rfl
theorem steps_none {op : AOp} {r : List AOper} {acc : List (List Nat × List Nat)} : steps E C (⟨none, op, none⟩ :: r) ⟨t, s⟩ acc = stpN E C op r t s acc (sem E C 999 op (gv t) s) := by
  rw [steps]
  simp only [stp, wanted, Option.getD]
  unfold stpN
  cases sem E C 999 op (gv t) s with
  | none => rfl
  | some q => rfl
theorem steps_guard {d : Nat} {op : AOp} {r : List AOper} {j : Nat} {w : Bool} {acc : List (List Nat × List Nat)} : steps E C (⟨some d, op, some (j, w)⟩ :: r) ⟨t, s⟩ acc = gdK (t j) w (steps E C (⟨some d, op, none⟩ :: r) ⟨t, s⟩ acc) (steps E C r ⟨upd t d (.p (.tup [])), s⟩ (([], []) :: acc)) := by
  rw [steps]
  simp only [stp, wanted]
  cases t j with
  | p x => cases x with
    | bool v => cases v <;> cases w <;> rfl
    | _ => rfl
  | _ => rfl
theorem steps_guard0 {op : AOp} {r : List AOper} {j : Nat} {w : Bool} {acc : List (List Nat × List Nat)} : steps E C (⟨none, op, some (j, w)⟩ :: r) ⟨t, s⟩ acc = gdK (t j) w (steps E C (⟨none, op, none⟩ :: r) ⟨t, s⟩ acc) (steps E C r ⟨t, s⟩ (([], []) :: acc)) := by
  rw [steps]
  simp only [stp, wanted]
  cases t j with
  | p x => cases x with
    | bool v => cases v <;> cases w <;> rfl
    | _ => rfl
  | _ => rfl

theorem gv_t {n : Nat} : gv t (.t n) = t n := rfl
theorem gv_c {x : PV} : gv t (.c x) = .p x := rfl
theorem gv_f {g : FuncId} : gv t (.f g) = .p (.fn g [] []) := rfl
theorem upd_at {α : Type} (f : Nat → α) (k j : Nat) (x : α) : upd f k x j = if j = k then x else f j := rfl
theorem mkT_cons {i j : Nat} {x : AV} {l : List (Nat × AV)} : mkT ((i, x) :: l) j = if j = i then x else mkT l j := by
  unfold mkT
  rw [List.lookup_cons]
  by_cases h : j = i
  · subst h; simp
  · have : (j == i) = false := by simpa using h
    rw [this, if_neg h]
theorem mkT_nil {j : Nat} : mkT [] j = .un := rfl
theorem mkS_cons {i j : Nat} {x : List AV} {l : List (Nat × List AV)} : mkS ((i, x) :: l) j = if j = i then (0, some x) else mkS l j := by
  unfold mkS
  rw [List.lookup_cons]
  by_cases h : j = i
  · subst h; simp
  · have : (j == i) = false := by simpa using h
    rw [this, if_neg h]
theorem mkS_nil {j : Nat} : mkS [] j = (0, none) := rfl
theorem updAll_nil : updAll s [] = s := rfl
theorem updAll_cons {k : Nat} {x : K} {r : List (Nat × K)} : updAll s ((k, x) :: r) = updAll (upd s k x) r := rfl

/-! Operations -/
section
variable {d : Nat} {g : Opd → AV}
theorem sem_mv {x : Opd} : sem E C d (.mv x) g s = some (g x, []) := rfl
def mvlP (s : Nat → K) (x : AV) (k j : Nat) (p : Option PV) : Option (AV × List (Nat × K)) := match p with
  | some p => some (x, [(j, ((s j).1 + 1, none)), (k, ((s k).1, some [.p p]))])
  | none => none
theorem mvlP_some {x : AV} {k j : Nat} {p : PV} : mvlP s x k j (some p) = some (x, [(j, ((s j).1 + 1, none)), (k, ((s k).1, some [.p p]))]) := rfl
def mvlK (s : Nat → K) (x : AV) (k j : Nat) (c : K) : Option (AV × List (Nat × K)) := match c.2 with
  | some [.ms j' v o n z] => if j' = j ∧ j ≠ k then mvlP s x k j (freezeC s (.ms j' v o n z)) else none
  | _ => none
theorem mvlK_ms {x : AV} {k j ver j' v o n z : Nat} : mvlK s x k j (ver, some [.ms j' v o n z]) = if j' = j ∧ j ≠ k then mvlP s x k j (freezeC s (.ms j' v o n z)) else none := rfl
theorem sem_mvl {x : Opd} {k j : Nat} : sem E C d (.mvl x k j) g s = mvlK s (g x) k j (s k) := by
  simp only [sem, mvlK, mvlP]
  cases (s k).2 with
  | none => rfl
  | some l => match l with
    | [] => rfl
    | [x] => cases x <;> rfl
    | _ :: _ :: _ => rfl
theorem sem_pick {c a b : Opd} : sem E C d (.pick c a b) g s = cndK (g c) (some (g a, [])) (some (g b, [])) := by
  show (match g c with | .p (.bool true) => some (g a, []) | .p (.bool false) => some (g b, []) | _ => none) = _
  unfold cndK; rfl
theorem sem_alloc {z : PV} : sem E C d (.alloc z) g s = some (.mp d ((s d).1 + 1) 0 0, [(d, ((s d).1 + 1, some [.p z]))]) := rfl
theorem sem_box {x : Opd} : sem E C d (.box x) g s = if vok (g x) = true then some (.mp d ((s d).1 + 1) 0 0, [(d, ((s d).1 + 1, some [g x]))]) else none := rfl

/-- The value alone. -/
def pK (x : Option AV) : Option (AV × List (Nat × K)) := match x with | some x => some (x, []) | none => none
theorem pK_some {x : AV} : pK (some x) = some (x, []) := rfl
theorem pK_ite {c : Prop} [Decidable c] {a b : Option AV} : pK (if c then a else b) = if c then pK a else pK b := by split <;> rfl

def bldK (x : Option (List AV)) : Option (AV × List (Nat × K)) := match x with | some cs => some (ofCells true cs, []) | none => none
theorem bldK_some {cs : List AV} : bldK (some cs) = some (ofCells true cs, []) := rfl
theorem sem_build {z : List PV} {ps : List (Nat × Nat × Opd)} : sem E C d (.build z ps) g s = bldK (fillCells (z.map .p) (ps.map fun q => (q.1, q.2.1, g q.2.2))) := rfl

theorem sem_mkls0 {z : Nat} : sem E C d (.mkls z [] false) g s = some (.e0 z, []) := rfl
def frK (z : Nat) (u : List (Nat × K)) (x : Option (List PV)) : Option (AV × List (Nat × K)) := match x with
  | some ps => if ps.all (fun p => p.cells.length == z && vok (.p p)) = true then some (.p (.ls z ps), u) else none
  | none => none
theorem frK_some {z : Nat} {u : List (Nat × K)} {ps : List PV} : frK z u (some ps) = if ps.all (fun p => p.cells.length == z && vok (.p p)) = true then some (.p (.ls z ps), u) else none := rfl
theorem sem_mkls {z : Nat} {x : Opd} {xs : List Opd} : sem E C d (.mkls z (x :: xs) false) g s = frK z (kill s (((x :: xs).map g).flatMap keysV)) (freezes s [] ((x :: xs).map g)) := rfl
theorem sem_mklsm {z : Nat} {xs : List Opd} : sem E C d (.mkls z xs true) g s = if (xs.map g).all (fun x => vok x && x.cells.length == z) = true then some (.ms d ((s d).1 + 1) 0 xs.length z, [(d, ((s d).1 + 1, some (xs.map g)))]) else none := rfl

/-- An element of a box. -/
def elK {α : Type} (o : Option (List AV)) (i : Nat) (k : List AV → AV → Option α) : Option α := match o with
  | some els => match els[i]? with | some el => k els el | none => none
  | none => none
theorem elK_congr {α : Type} {o o' : Option (List AV)} {i : Nat} {k : List AV → AV → Option α} (h : o = o') : elK o i k = elK o' i k := by rw [h]
def elK2 {α : Type} (els : List AV) (o : Option AV) (k : List AV → AV → Option α) : Option α := match o with | some el => k els el | none => none
theorem elK2_congr {α : Type} {els : List AV} {o o' : Option AV} {k : List AV → AV → Option α} (h : o = o') : elK2 els o k = elK2 els o' k := by rw [h]
theorem elK_some {α : Type} {els : List AV} {i : Nat} {k : List AV → AV → Option α} : elK (some els) i k = elK2 els els[i]? k := rfl
theorem elK2_some {α : Type} {els : List AV} {el : AV} {k : List AV → AV → Option α} : elK2 els (some el) k = k els el := rfl

def ldK (s : Nat → K) (agg : Bool) (n : Nat) (x : AV) : Option (AV × List (Nat × K)) := match x with
    | .mp k v i o => elK (lk s k v) i fun _ el => if o + n ≤ el.cells.length ∧ (agg || n == 1) = true then some (ofCells agg ((el.cells.drop o).take n), []) else none
    | .p (.fp cs o) => match pcells agg ((cs.drop o).take n) with
      | some r => if o + n ≤ cs.length then some (r, []) else none
      | none => none
    | _ => none
theorem sem_load {agg : Bool} {n : Nat} {x : Opd} : sem E C d (.load agg n x) g s = ldK s agg n (g x) := rfl
theorem ldK_mp {agg : Bool} {n k v i o : Nat} : ldK s agg n (.mp k v i o) = elK (lk s k v) i fun _ el => if o + n ≤ el.cells.length ∧ (agg || n == 1) = true then some (ofCells agg ((el.cells.drop o).take n), []) else none := rfl
def ifK (c : Prop) [Decidable c] (x : Option AV) : Option (AV × List (Nat × K)) := if c then pK x else none
theorem ifK_t {c : Prop} [Decidable c] {x : Option AV} (h : c) : ifK c x = pK x := if_pos h
theorem ldK_fp {agg : Bool} {n o : Nat} {cs : List PV} : ldK s agg n (.p (.fp cs o)) = ifK (o + n ≤ cs.length) (pcells agg ((cs.drop o).take n)) := by
  simp only [ldK, ifK, pK]
  cases pcells agg ((cs.drop o).take n) <;> simp

def stK (s : Nat → K) (n : Nat) (x v : AV) : Option (AV × List (Nat × K)) := match x with
    | .mp k ver i o => elK (lk s k ver) i fun els el => if v.cells.length = n ∧ vok v then match setEl el o v.cells with
            | some el' => some (.un, [(k, ((s k).1, some (els.set i el')))])
            | none => none
          else none
    | _ => none
theorem sem_store {n : Nat} {x v : Opd} : sem E C d (.store n x v) g s = stK s n (g x) (g v) := rfl
def setK (k ver i : Nat) (els : List AV) (x : Option AV) : Option (AV × List (Nat × K)) := match x with
  | some el' => some (.un, [(k, (ver, some (els.set i el')))])
  | none => none
theorem setK_some {k ver i : Nat} {els : List AV} {x : AV} : setK k ver i els (some x) = some (.un, [(k, (ver, some (els.set i x)))]) := rfl
theorem stK_mp {n k ver i o : Nat} {v : AV} : stK s n (.mp k ver i o) v = elK (lk s k ver) i fun els el => if v.cells.length = n ∧ vok v = true then setK k (s k).1 i els (setEl el o v.cells) else none := rfl

def nilK (x : AV) : Option (AV × List (Nat × K)) := match x with
  | .mp k v i o => some (.mp k v i o, [])
  | .p (.fp cs o) => some (.p (.fp cs o), [])
  | _ => none
theorem sem_nilck {x : Opd} : sem E C d (.nilck x) g s = nilK (g x) := rfl
theorem nilK_mp {k v i o : Nat} : nilK (.mp k v i o) = some (.mp k v i o, []) := rfl
theorem nilK_fp {cs : List PV} {o : Nat} : nilK (.p (.fp cs o)) = some (.p (.fp cs o), []) := rfl
theorem sem_bin {op : BinOp} {q : Nat × List Nat} {x y : Opd} : sem E C d (.bin op q x y) g s = pK (binAV op q (g x) (g y)) := rfl
theorem sem_un {op : UnOp} {x : Opd} : sem E C d (.un op x) g s = pK (unAV op (g x)) := rfl
def cvK (k : IntKind) (x : AV) : Option (AV × List (Nat × K)) := match x with | .p (.int _ n) => some (.p (.int k (k.wrap n)), []) | _ => none
theorem sem_conv {k : IntKind} {x : Opd} : sem E C d (.conv k x) g s = cvK k (g x) := rfl
theorem cvK_int {k k' : IntKind} {n : Int} : cvK k (.p (.int k' n)) = some (.p (.int k (k.wrap n)), []) := rfl
def btK (x : AV) : Option (AV × List (Nat × K)) := match x with
  | .p (.ls _ xs) => match bytesOf xs with | some b => some (.p (.str b), []) | none => none
  | _ => none
theorem sem_bts {x : Opd} : sem E C d (.bts x) g s = btK (g x) := rfl
def strK (x : Option ByteArray) : Option (AV × List (Nat × K)) := match x with | some b => some (.p (.str b), []) | none => none
theorem strK_some {b : ByteArray} : strK (some b) = some (.p (.str b), []) := rfl
theorem btK_ls {z : Nat} {xs : List PV} : btK (.p (.ls z xs)) = strK (bytesOf xs) := rfl

def fnK (f : FuncId) (a c : List AV) (x y : Option (List PV)) : Option (AV × List (Nat × K)) := match x, y with
    | some a', some c' => some (.p (.fn f a' c'), [])
    | _, _ => if a.all cellish && c.all cellish then some (.cl f a c, []) else none
theorem sem_mkfn {f : FuncId} {a c : List Opd} : sem E C d (.mkfn f a c) g s = fnK f (a.map g) (c.map g) (plainAll (a.map g)) (plainAll (c.map g)) := by rw [sem]; rfl
theorem fnK_p {f : FuncId} {a c : List AV} {x y : List PV} : fnK f a c (some x) (some y) = some (.p (.fn f x y), []) := rfl
theorem fnK_c1 {f : FuncId} {a c : List AV} {y : Option (List PV)} : fnK f a c none y = if (a.all cellish && c.all cellish) = true then some (.cl f a c, []) else none := rfl
theorem fnK_c2 {f : FuncId} {a c : List AV} {x : List PV} : fnK f a c (some x) none = if (a.all cellish && c.all cellish) = true then some (.cl f a c, []) else none := rfl

def mkK (s : Nat → K) (d z : Nat) (el : PV) (l c : AV) : Option (AV × List (Nat × K)) := match l, c with
    | .p (.int _ n), .p (.int _ m) => if 0 ≤ n ∧ m = n ∧ n ≤ room then
        some (.ms d ((s d).1 + 1) 0 n.toNat z, [(d, ((s d).1 + 1, some (List.replicate n.toNat (.p el))))])
      else none
    | _, _ => none
theorem sem_mksl {z : Nat} {el : PV} {l c : Opd} : sem E C d (.mksl z el l c) g s = mkK s d z el (g l) (g c) := rfl
theorem mkK_int {z : Nat} {el : PV} {k k' : IntKind} {n m : Int} : mkK s d z el (.p (.int k n)) (.p (.int k' m)) = if 0 ≤ n ∧ m = n ∧ n ≤ room then
        some (.ms d ((s d).1 + 1) 0 n.toNat z, [(d, ((s d).1 + 1, some (List.replicate n.toNat (.p el))))])
      else none := rfl

theorem sem_slc {z : Nat} {x : Opd} {lo hi mx : Option Opd} : sem E C d (.slc z x lo hi mx) g s = pK (slcAV s z (g x) g lo hi mx) := rfl
def boundK (c : Int) (l h : Option Int) (k : Int → Int → Option AV) : Option AV := match l, h with
  | some l, some h => if 0 ≤ l ∧ l ≤ h ∧ h ≤ c then k l h else none
  | _, _ => none
theorem boundK_some {c l h : Int} {k : Int → Int → Option AV} : boundK c (some l) (some h) k = if 0 ≤ l ∧ l ≤ h ∧ h ≤ c then k l h else none := rfl
theorem slc_str {b : ByteArray} {lo hi : Option Opd} : slcAV s 0 (.p (.str b)) g lo hi none = boundK b.size (optInt g 0 lo) (optInt g b.size hi) fun l h => some (.p (.str (b.extract l.toNat h.toNat))) := by
  simp only [slcAV, boundK]
  cases optInt g 0 lo with
  | none => rfl
  | some l => cases optInt g b.size hi with
    | none => rfl
    | some h => simp
theorem slc_ls {z : Nat} {xs : List PV} {lo hi : Option Opd} (hz : z ≠ 0) : slcAV s z (.p (.ls z xs)) g lo hi none = boundK xs.length (optInt g 0 lo) (optInt g xs.length hi) fun l h => some (.p (.ls z ((xs.take h.toNat).drop l.toNat))) := by
  simp only [slcAV, boundK]
  cases optInt g 0 lo with
  | none => rfl
  | some l => cases optInt g xs.length hi with
    | none => rfl
    | some h => simp [hz]
def elsK (x : Option (List AV)) (k : List AV → Option AV) : Option AV := match x with | some els => k els | none => none
theorem elsK_congr {x x' : Option (List AV)} {k : List AV → Option AV} (h : x = x') : elsK x k = elsK x' k := by rw [h]
theorem elsK_some {els : List AV} {k : List AV → Option AV} : elsK (some els) k = k els := rfl
theorem slc_ms {z k v o n : Nat} {lo hi : Option Opd} (hz : z ≠ 0) : slcAV s z (.ms k v o n z) g lo hi none = elsK (lk s k v) fun els => boundK ((els.length : Int) - o) (optInt g 0 lo) (optInt g n hi) fun l h => some (.ms k v (o + l.toNat) (h.toNat - l.toNat) z) := by
  simp only [slcAV, elsK]
  cases lk s k v with
  | none => rfl
  | some els =>
    simp only [boundK]
    cases optInt g 0 lo with
    | none => rfl
    | some l => cases optInt g n hi with
      | none => rfl
      | some h =>
        simp only [hz, ne_eq, not_false_eq_true, true_and]
        by_cases h1 : 0 ≤ l ∧ l ≤ h ∧ h ≤ (els.length : Int) - o
        · rw [if_pos h1, if_pos (by omega)]
        · rw [if_neg h1, if_neg (by omega)]
theorem slc_msx {z k v o n : Nat} {lo hi : Option Opd} {mx : Opd} (hz : z ≠ 0) : slcAV s z (.ms k v o n z) g lo hi (some mx) = elsK (lk s k v) fun els => boundK ((els.length : Int) - o) (optInt g 0 lo) (optInt g n hi) fun l h => if intOf? (g mx) = some (n : Int) ∧ h ≤ n ∧ hi.isSome then some .un else none := by
  simp only [slcAV, elsK]
  cases lk s k v with
  | none => rfl
  | some els =>
    simp only [boundK]
    cases optInt g 0 lo with
    | none => rfl
    | some l => cases optInt g n hi with
      | none => rfl
      | some h =>
        simp only [hz, ne_eq, not_false_eq_true, true_and]
        by_cases h1 : 0 ≤ l ∧ l ≤ h ∧ h ≤ (els.length : Int) - o
        · rw [if_pos h1, if_pos (by omega)]
        · rw [if_neg h1, if_neg (by omega)]
theorem optInt_none {c : Int} : optInt g c none = some c := rfl
theorem optInt_some {c : Int} {x : Opd} : optInt g c (some x) = intOf? (g x) := rfl
theorem intOf_int {k : IntKind} {n : Int} : intOf? (.p (.int k n)) = some n := rfl

def fadK (o : Nat) (x : AV) : Option (AV × List (Nat × K)) := match x with
    | .mp k v i o' => some (.mp k v i (o' + o), [])
    | .p (.fp cs o') => some (.p (.fp cs (o' + o)), [])
    | _ => none
theorem sem_fad {o : Nat} {x : Opd} : sem E C d (.fad o x) g s = fadK o (g x) := rfl
theorem fadK_mp {o k v i o' : Nat} : fadK o (.mp k v i o') = some (.mp k v i (o' + o), []) := rfl
theorem fadK_fp {o o' : Nat} {cs : List PV} : fadK o (.p (.fp cs o')) = some (.p (.fp cs (o' + o)), []) := rfl
def fldK (agg : Bool) (o n : Nat) (x : AV) : Option (AV × List (Nat × K)) := match x with
    | .p (.agg cs) => match pcells agg ((cs.drop o).take n) with | some r => if o + n ≤ cs.length then some (r, []) else none | none => none
    | .ag cs => if o + n ≤ cs.length ∧ (agg = true ∨ n = 1) then some (ofCells agg ((cs.drop o).take n), []) else none
    | _ => none
theorem sem_fld {agg : Bool} {o n : Nat} {x : Opd} : sem E C d (.fld agg o n x) g s = fldK agg o n (g x) := rfl
theorem fldK_p {agg : Bool} {o n : Nat} {cs : List PV} : fldK agg o n (.p (.agg cs)) = ifK (o + n ≤ cs.length) (pcells agg ((cs.drop o).take n)) := by
  simp only [fldK, ifK, pK]
  cases pcells agg ((cs.drop o).take n) <;> simp
theorem fldK_a {agg : Bool} {o n : Nat} {cs : List AV} : fldK agg o n (.ag cs) = if o + n ≤ cs.length ∧ (agg = true ∨ n = 1) then some (ofCells agg ((cs.drop o).take n), []) else none := rfl

def iadK (s : Nat → K) (z : Nat) (arr : Option Nat) (x i : AV) : Option (AV × List (Nat × K)) := match intOf? i with
    | none => none
    | some n => if 0 ≤ n then match arr, x with
        | none, .p (.ls z' xs) => match xs[n.toNat]? with
          | some y => if z' = z then some (.p (.fp y.cells 0), []) else none
          | none => none
        | none, .ms k v o m z' => if n < m ∧ z' = z ∧ (s k).1 = v then some (.mp k v (o + n.toNat) 0, []) else none
        | some len, .mp k v j o => if n < len then some (.mp k v j (o + n.toNat * z), []) else none
        | some len, .p (.fp cs o) => if n < len then some (.p (.fp cs (o + n.toNat * z)), []) else none
        | _, _ => none
      else none
theorem sem_iad {z : Nat} {arr : Option Nat} {x i : Opd} : sem E C d (.iad z arr x i) g s = iadK s z arr (g x) (g i) := rfl
def fpK (x : Option PV) : Option (AV × List (Nat × K)) := match x with | some y => some (.p (.fp y.cells 0), []) | none => none
theorem fpK_some {y : PV} : fpK (some y) = some (.p (.fp y.cells 0), []) := rfl
theorem iadK_ls {z : Nat} {xs : List PV} {k : IntKind} {n : Int} : iadK s z none (.p (.ls z xs)) (.p (.int k n)) = if 0 ≤ n then fpK xs[n.toNat]? else none := by
  simp only [iadK, intOf?, fpK, if_true]
theorem iadK_ms {z ky v o m : Nat} {k : IntKind} {n : Int} : iadK s z none (.ms ky v o m z) (.p (.int k n)) = if 0 ≤ n then if n < m ∧ (s ky).1 = v then some (.mp ky v (o + n.toNat) 0, []) else none else none := by
  simp [iadK, intOf?]
theorem iadK_amp {z ky v j o len : Nat} {k : IntKind} {n : Int} : iadK s z (some len) (.mp ky v j o) (.p (.int k n)) = if 0 ≤ n then if n < len then some (.mp ky v j (o + n.toNat * z), []) else none else none := rfl
theorem iadK_afp {z o len : Nat} {cs : List PV} {k : IntKind} {n : Int} : iadK s z (some len) (.p (.fp cs o)) (.p (.int k n)) = if 0 ≤ n then if n < len then some (.p (.fp cs (o + n.toNat * z)), []) else none else none := rfl

def idxK (arr : Option (Nat × Nat × Bool)) (x i : AV) : Option (AV × List (Nat × K)) := match intOf? i with
    | none => none
    | some n => if 0 ≤ n then match arr, x with
        | none, .p (.str b) => match b.data[n.toNat]? with | some u => some (.p (.int .u8 u.toNat), []) | none => none
        | some (len, z, agg), .p (.agg cs) => if n < len ∧ n.toNat * z + z ≤ cs.length then match pcells agg ((cs.drop (n.toNat * z)).take z) with | some r => some (r, []) | none => none else none
        | some (len, z, agg), .ag cs => if n < len ∧ n.toNat * z + z ≤ cs.length ∧ (agg = true ∨ z = 1) then some (ofCells agg ((cs.drop (n.toNat * z)).take z), []) else none
        | _, _ => none
      else none
theorem sem_idx {arr : Option (Nat × Nat × Bool)} {x i : Opd} : sem E C d (.idx arr x i) g s = idxK arr (g x) (g i) := rfl
def u8K (x : Option UInt8) : Option (AV × List (Nat × K)) := match x with | some u => some (.p (.int .u8 u.toNat), []) | none => none
theorem u8K_some {u : UInt8} : u8K (some u) = some (.p (.int .u8 u.toNat), []) := rfl
theorem idxK_str {b : ByteArray} {k : IntKind} {n : Int} : idxK none (.p (.str b)) (.p (.int k n)) = if 0 ≤ n then u8K b.data[n.toNat]? else none := rfl
theorem idxK_agg {len z : Nat} {agg : Bool} {cs : List PV} {k : IntKind} {n : Int} : idxK (some (len, z, agg)) (.p (.agg cs)) (.p (.int k n)) = if 0 ≤ n then if n < len ∧ n.toNat * z + z ≤ cs.length then pK (pcells agg ((cs.drop (n.toNat * z)).take z)) else none else none := rfl

def extK (x : AV) (i : Nat) : Option (AV × List (Nat × K)) := match x with
    | .p (.tup vs) => match vs[i]? with | some y => some (.p y, []) | none => none
    | .tu vs => match vs[i]? with | some y => some (y, []) | none => none
    | _ => none
theorem sem_ext {x : Opd} {i : Nat} : sem E C d (.ext x i) g s = extK (g x) i := rfl
def pvK (x : Option PV) : Option (AV × List (Nat × K)) := match x with | some y => some (.p y, []) | none => none
theorem pvK_some {y : PV} : pvK (some y) = some (.p y, []) := rfl
theorem extK_p {vs : List PV} {i : Nat} : extK (.p (.tup vs)) i = pvK vs[i]? := rfl
theorem extK_t {vs : List AV} {i : Nat} : extK (.tu vs) i = pK vs[i]? := rfl

def calK (E : Env) (C : CFT) (s : Nat → K) (d : Nat) (x : Option (FuncId × List AV × List Shape)) : Option (AV × List (Nat × K)) := match x with
    | some (h, as, sh) => doCall E C s d h as sh
    | none => none
theorem sem_call {f : Opd} {args : List Opd} {sh : List Shape} : sem E C d (.call f args sh) g s = calK E C s d (callee (g f) (args.map g) sh) := rfl
theorem calK_some {h : FuncId} {as : List AV} {sh : List Shape} : calK E C s d (some (h, as, sh)) = doCall E C s d h as sh := rfl

def lenK (st : Bool) (x : AV) : Option (AV × List (Nat × K)) := match st, x with
  | true, .p (.str b) => some (.p (.int .i64 b.size), [])
  | false, .p (.ls _ xs) => some (.p (.int .i64 xs.length), [])
  | false, .p .nls => some (.p (.int .i64 0), [])
  | false, .e0 _ => some (.p (.int .i64 0), [])
  | false, .ms _ _ _ n _ => some (.p (.int .i64 n), [])
  | _, _ => none
theorem sem_len {st : Bool} {x : Opd} : sem E C d (.len st x) g s = lenK st (g x) := by
  cases st <;> simp only [sem, lenK] <;> split <;> simp_all
theorem lenK_str {b : ByteArray} : lenK true (.p (.str b)) = some (.p (.int .i64 b.size), []) := rfl
theorem lenK_ls {z : Nat} {xs : List PV} : lenK false (.p (.ls z xs)) = some (.p (.int .i64 xs.length), []) := rfl
theorem lenK_nls : lenK false (.p .nls) = some (.p (.int .i64 0), []) := rfl
theorem lenK_e0 {z : Nat} : lenK false (.e0 z) = some (.p (.int .i64 0), []) := rfl
theorem lenK_ms {k v o n z : Nat} : lenK false (.ms k v o n z) = some (.p (.int .i64 n), []) := rfl
def mmK (mx : Bool) (x y : AV) : Option (AV × List (Nat × K)) := match x, y with
    | .p (.int k a), .p (.int _ b) => some (.p (.int k (if mx then (if b > a then b else a) else (if b < a then b else a))), [])
    | _, _ => none
theorem sem_maxmin {mx : Bool} {x y : Opd} : sem E C d (.maxmin mx x y) g s = mmK mx (g x) (g y) := rfl
theorem mmK_max {k k' : IntKind} {a b : Int} : mmK true (.p (.int k a)) (.p (.int k' b)) = some (.p (.int k (if b > a then b else a)), []) := rfl
theorem mmK_min {k k' : IntKind} {a b : Int} : mmK false (.p (.int k a)) (.p (.int k' b)) = some (.p (.int k (if b < a then b else a)), []) := rfl

def appK (s : Nat → K) (d z : Nat) (x : AV) (y : Option (List AV)) : Option (AV × List (Nat × K)) := match y with
    | none => none
    | some ys => match x with
      | .e0 _ => if ys.length ≤ room then some (.ms d ((s d).1 + 1) 0 ys.length z, [(d, ((s d).1 + 1, some ys))]) else none
      | .p .nls => if ys.length ≤ room then some (.ms d ((s d).1 + 1) 0 ys.length z, [(d, ((s d).1 + 1, some ys))]) else none
      | .ms k v o n z' => match lk s k v with
        | some els => if z' = z then
            if o + n + ys.length ≤ els.length then some (.ms k v o (n + ys.length) z, [(k, ((s k).1, some (els.take (o + n) ++ ys ++ els.drop (o + n + ys.length))))])
            else if o = 0 ∧ n = els.length ∧ n + ys.length ≤ room then some (.ms k ((s k).1 + 1) o (n + ys.length) z, [(k, ((s k).1 + 1, some (els ++ ys)))])
            else none
          else none
        | none => none
      | _ => none
theorem sem_app {z : Nat} {x y : Opd} : sem E C d (.app z x y) g s = appK s d z (g x) (tailOf s z (g y)) := by
  rw [sem]; rfl
theorem appK_e0 {z z' : Nat} {ys : List AV} : appK s d z (.e0 z') (some ys) = if ys.length ≤ room then some (.ms d ((s d).1 + 1) 0 ys.length z, [(d, ((s d).1 + 1, some ys))]) else none := rfl
theorem appK_nls {z : Nat} {ys : List AV} : appK s d z (.p .nls) (some ys) = if ys.length ≤ room then some (.ms d ((s d).1 + 1) 0 ys.length z, [(d, ((s d).1 + 1, some ys))]) else none := rfl
def apK (k v ver o n z : Nat) (ys : List AV) (x : Option (List AV)) : Option (AV × List (Nat × K)) := match x with
  | some els => if o + n + ys.length ≤ els.length then some (.ms k v o (n + ys.length) z, [(k, (ver, some (els.take (o + n) ++ ys ++ els.drop (o + n + ys.length))))])
            else if o = 0 ∧ n = els.length ∧ n + ys.length ≤ room then some (.ms k (ver + 1) o (n + ys.length) z, [(k, (ver + 1, some (els ++ ys)))])
            else none
  | none => none
theorem appK_ms {z k v o n : Nat} {ys : List AV} : appK s d z (.ms k v o n z) (some ys) = apK k v (s k).1 o n z ys (lk s k v) := by
  simp only [appK, apK, if_true]
/-- A row that grows. -/
theorem apK_grow {k v ver n z : Nat} {ys els : List AV} (hn : n = els.length) (hy : 0 < ys.length) (hr : els.length + ys.length ≤ room) : apK k v ver 0 n z ys (some els) = some (.ms k (ver + 1) 0 (els.length + ys.length) z, [(k, (ver + 1, some (els ++ ys)))]) := by
  subst hn
  simp only [apK]
  rw [if_neg (by omega), if_pos ⟨trivial, trivial, hr⟩]
theorem apK_same {k v ver n z : Nat} {els : List AV} (hn : n = els.length) : apK k v ver 0 n z [] (some els) = some (.ms k v 0 n z, [(k, (ver, some els))]) := by
  subst hn
  simp [apK]
def clK (k _v ver o n z : Nat) (el : PV) (x : Option (List AV)) : Option (AV × List (Nat × K)) := match x with
      | some els => if o + n ≤ els.length ∧ z = (AV.p el).cells.length then some (.un, [(k, (ver, some (els.take o ++ List.replicate n (.p el) ++ els.drop (o + n))))]) else none
      | none => none
def clrK (s : Nat → K) (el : PV) (x : AV) : Option (AV × List (Nat × K)) := match x with
    | .ms k v o n z => clK k v (s k).1 o n z el (lk s k v)
    | .e0 _ => some (.un, [])
    | _ => none
theorem sem_clear {el : PV} {x : Opd} : sem E C d (.clear el x) g s = clrK s el (g x) := rfl

/-! Boxes -/
def lkK (v : Nat) (x : K) : Option (List AV) := if x.1 = v then x.2 else none
theorem lk_eq {k v : Nat} : lk s k v = lkK v (s k) := rfl
theorem lkK_at {v w : Nat} {x : Option (List AV)} : lkK v (w, x) = if w = v then x else none := rfl

/-! Calls -/
/-- What boxes hold that come back: what is plain stays. -/
def bpK (ks : List Nat) (nx : Nat) (s : Nat → K) (d : Nat) (b : List AV) (x : Option (List PV)) : Option (List AV) := match x with
  | some ps => some (ps.map .p)
  | none => backVs ks nx s d b
theorem bpK_some {ks : List Nat} {nx d : Nat} {b : List AV} {ps : List PV} : bpK ks nx s d b (some ps) = some (ps.map .p) := rfl
theorem bpK_none {ks : List Nat} {nx d : Nat} {b : List AV} : bpK ks nx s d b none = backVs ks nx s d b := rfl
def cnsK (x : Option (List AV)) (y : Option (List (List AV))) : Option (List (List AV)) := match x, y with
  | some x, some y => some (x :: y)
  | _, _ => none
theorem cnsK_some {x : List AV} {y : List (List AV)} : cnsK (some x) (some y) = some (x :: y) := rfl
theorem backVs_plain {ks : List Nat} {nx d : Nat} : ∀ (ps : List PV), backVs ks nx s d (ps.map .p) = some (ps.map .p)
  | [] => rfl
  | p :: ps => by simp only [List.map_cons, backVs, backV, backVs_plain ps]
theorem backX_nil {ks : List Nat} {nx d : Nat} : backX ks nx s d [] = some [] := rfl
theorem backX_cons {ks : List Nat} {nx d : Nat} {b : List AV} {r : List (List AV)} : backX ks nx s d (b :: r) = cnsK (bpK ks nx s d b (plainAll b)) (backX ks nx s d r) := by
  have : bpK ks nx s d b (plainAll b) = backVs ks nx s d b := by
    cases h : plainAll b with
    | none => rfl
    | some ps => rw [plainAll_eq h, backVs_plain]; rfl
  rw [this, backX]
  cases backVs ks nx s d b with
  | none => rfl
  | some y => simp only [cnsK]; cases backX ks nx s d r <;> rfl

def outR (s : Nat → K) (d : Nat) (ks : List Nat) (x : Option (List (List AV))) (r : Option AV) : Option (AV × List (Nat × K)) := match r, x with
  | some r, some x => some (r, kill s ks ++ newBlocks s d 0 x)
  | _, _ => none
theorem outR_some {ks : List Nat} {x : List (List AV)} {r : AV} : outR s d ks (some x) (some r) = some (r, kill s ks ++ newBlocks s d 0 x) := rfl
def outP (s : Nat → K) (d : Nat) (ks : List Nat) (x : Option Out) : Option (AV × List (Nat × K)) := match x with
  | some o => if 13 < o.x.length then none else outR s d ks (backX [] o.x.length s d o.x) (back [] o.x.length s d o.r)
  | none => none
theorem outP_p {ks : List Nat} {x : PV} {b : List (List PV)} : outP s d ks (some ⟨.p x, b, []⟩) = some (.p x, kill s ks) := by
  simp [outP, outR, back, backX, newBlocks]
theorem outP_x {ks : List Nat} {r : AV} {b : List (List PV)} {y : List AV} {x : List (List AV)} : outP s d ks (some ⟨r, b, y :: x⟩) = if 13 < (y :: x).length then none else outR s d ks (backX [] (y :: x).length s d (y :: x)) (back [] (y :: x).length s d r) := rfl
theorem outP_ite {ks : List Nat} {c : Prop} [Decidable c] {a b : Option Out} : outP s d ks (if c then a else b) = if c then outP s d ks a else outP s d ks b := by split <;> rfl
theorem outP_none {ks : List Nat} : outP s d ks none = none := rfl
def cpK (C : CFT) (s : Nat → K) (d : Nat) (g : FuncId) (ks : List Nat) (x : Option (List PV)) : Option (AV × List (Nat × K)) := match x with
  | none => none
  | some ps => outP s d ks (C g (ps.map .p) [])
theorem cpK_some {g : FuncId} {ks : List Nat} {ps : List PV} : cpK C s d g ks (some ps) = outP s d ks (C g (ps.map .p) []) := rfl
theorem doCall_pure {g : FuncId} {as : List AV} {sh : List Shape} (h : E.mode g = .pure) : doCall E C s d g as sh = cpK C s d g (as.flatMap keysV) (freezes s sh as) := by
  unfold doCall cpK
  rw [h]
  simp only []
  split
  · rename_i hf; rw [hf]
  · rename_i ps hf
    rw [hf]
    simp only []
    unfold outP
    cases C g (ps.map .p) [] with
    | none => rfl
    | some o =>
      simp only [Option.bind_some, outR]
      split
      · rfl
      · cases back [] o.x.length s d o.r with
        | none => rfl
        | some r => cases backX [] o.x.length s d o.x <;> rfl

def fxK (s : Nat → K) (sh : List Shape) (as : List AV) (x : Option (List PV)) : Option (List PV) := match x with
  | some ps => some ps
  | none => freezesD s sh as
theorem freezesX_eq {sh : List Shape} {as : List AV} : freezesX s sh as = fxK s sh as (freezes s sh as) := rfl
theorem fxK_some {sh : List Shape} {as : List AV} {ps : List PV} : fxK s sh as (some ps) = some ps := rfl
theorem fxK_none {sh : List Shape} {as : List AV} : fxK s sh as none = freezesD s sh as := rfl
def outBR (s : Nat → K) (d : Nat) (x : Option (List (List AV))) (r : Option AV) : Option (AV × List (Nat × K)) := match r, x with
  | some r, some x => some (r, newBlocks s d 0 x)
  | _, _ => none
theorem outBR_some {x : List (List AV)} {r : AV} : outBR s d (some x) (some r) = some (r, newBlocks s d 0 x) := rfl
def outB2 (s : Nat → K) (d : Nat) (r : AV) (x : List (List AV)) : Option (AV × List (Nat × K)) :=
  if 13 < x.length ∨ flatA r = false ∨ (x.all fun b => b.all flatV) = false then none else outBR s d (backX [] x.length s d x) (back [] x.length s d r)
theorem outB2_eq {r : AV} {x : List (List AV)} (h1 : flatA r = true) (h2 : (x.all fun b => b.all flatV) = true) : outB2 s d r x = if 13 < x.length then none else outBR s d (backX [] x.length s d x) (back [] x.length s d r) := by
  simp [outB2, h1, h2]
def outB (s : Nat → K) (d : Nat) (x : Option Out) : Option (AV × List (Nat × K)) := match x with
  | some o => if atomA o.r = true then some (o.r, []) else outB2 s d o.r o.x
  | none => none
theorem outB_some {x : PV} {b : List (List PV)} {y : List (List AV)} : outB s d (some ⟨.p x, b, y⟩) = if isAtom x = true then some (.p x, []) else outB2 s d (.p x) y := rfl
theorem outB_ag {cs : List AV} {b : List (List PV)} {y : List (List AV)} : outB s d (some ⟨.ag cs, b, y⟩) = outB2 s d (.ag cs) y := rfl
theorem outB_tu {cs : List AV} {b : List (List PV)} {y : List (List AV)} : outB s d (some ⟨.tu cs, b, y⟩) = outB2 s d (.tu cs) y := rfl
theorem outB_ms {k v o n z : Nat} {b : List (List PV)} {y : List (List AV)} : outB s d (some ⟨.ms k v o n z, b, y⟩) = outB2 s d (.ms k v o n z) y := rfl
theorem outB_ite {c : Prop} [Decidable c] {a b : Option Out} : outB s d (if c then a else b) = if c then outB s d a else outB s d b := by split <;> rfl
theorem outB_none : outB s d none = none := rfl
def cbK (C : CFT) (s : Nat → K) (d : Nat) (g : FuncId) (x : Option (List PV)) : Option (AV × List (Nat × K)) := match x with
  | none => none
  | some ps => outB s d (C g (ps.map .p) [])
theorem cbK_some {g : FuncId} {ps : List PV} : cbK C s d g (some ps) = outB s d (C g (ps.map .p) []) := rfl
theorem doCall_borrow {g : FuncId} {as : List AV} {sh : List Shape} (h : E.mode g = .borrow) : doCall E C s d g as sh = cbK C s d g (freezesX s sh as) := by
  unfold doCall cbK
  rw [h]
  simp only []
  split
  · rename_i hf; rw [hf]
  · rename_i ps hf
    rw [hf]
    simp only []
    unfold outB outB2
    cases C g (ps.map .p) [] with
    | none => rfl
    | some o =>
      simp only [Option.bind_some, outBR]
      split
      · rfl
      · split
        · rfl
        · cases back [] o.x.length s d o.r with
          | none => rfl
          | some r => cases backX [] o.x.length s d o.x <;> rfl

def outMR (s : Nat → K) (d : Nat) (ks : List Nat) (b : List (List PV)) (x : Option (List (List AV))) (r : Option AV) : Option (AV × List (Nat × K)) := match r, x with
  | some r, some x => some (r, putBlocks s ks b ++ newBlocks s d 0 x)
  | _, _ => none
theorem outMR_some {ks : List Nat} {b : List (List PV)} {x : List (List AV)} {r : AV} : outMR s d ks b (some x) (some r) = some (r, putBlocks s ks b ++ newBlocks s d 0 x) := rfl
def outM (s : Nat → K) (d : Nat) (ks : List Nat) (x : Option Out) : Option (AV × List (Nat × K)) := match x with
  | some o => if 13 < o.x.length then none else outMR s d ks o.b (backX ks o.x.length s d o.x) (back ks o.x.length s d o.r)
  | none => none
theorem outM_p {ks : List Nat} {x : PV} {b : List (List PV)} : outM s d ks (some ⟨.p x, b, []⟩) = some (.p x, putBlocks s ks b) := by
  simp [outM, outMR, back, backX, newBlocks]
theorem outM_x {ks : List Nat} {r : AV} {b : List (List PV)} {x : List (List AV)} : outM s d ks (some ⟨r, b, x⟩) = if 13 < x.length then none else outMR s d ks b (backX ks x.length s d x) (back ks x.length s d r) := rfl
theorem outM_ite {ks : List Nat} {c : Prop} [Decidable c] {a b : Option Out} : outM s d ks (if c then a else b) = if c then outM s d ks a else outM s d ks b := by split <;> rfl
theorem outM_none {ks : List Nat} : outM s d ks none = none := rfl
def cmK (C : CFT) (s : Nat → K) (d : Nat) (g : FuncId) (ks : List Nat) (as : Option (List AV)) (bs : Option (List (List PV))) : Option (AV × List (Nat × K)) := match as, bs with
  | some as, some bs => outM s d ks (C g as bs)
  | _, _ => none
theorem cmK_some {g : FuncId} {ks : List Nat} {as : List AV} {bs : List (List PV)} : cmK C s d g ks (some as) (some bs) = outM s d ks (C g as bs) := rfl
def cmQ (C : CFT) (s : Nat → K) (d : Nat) (g : FuncId) (as : List AV) (sh : List Shape) (ks : List Nat) : Option (AV × List (Nat × K)) := if 50 < ks.length then none else cmK C s d g ks (hands ks s sh as) (blocksOf s ks)
theorem cmQ_eq {g : FuncId} {as : List AV} {sh : List Shape} {ks : List Nat} : cmQ C s d g as sh ks = if 50 < ks.length then none else cmK C s d g ks (hands ks s sh as) (blocksOf s ks) := rfl
def pbK (x : K) : Bool := match x.2 with
  | some els => (plainAll els).isSome
  | none => true
theorem plainB_eq {k : Nat} : plainB s k = pbK (s k) := rfl
theorem pbK_some {v : Nat} {els : List AV} : pbK (v, some els) = (plainAll els).isSome := rfl
theorem pbK_none {v : Nat} : pbK (v, none) = true := rfl
theorem filt_nil {p : Nat → Bool} : List.filter p [] = [] := rfl
theorem filt_cons {p : Nat → Bool} {k : Nat} {l : List Nat} : List.filter p (k :: l) = bif p k then k :: List.filter p l else List.filter p l := by
  rw [List.filter_cons]; cases p k <;> rfl
theorem doCall_mu {g : FuncId} {as : List AV} {sh : List Shape} (h : E.mode g = .mu) : doCall E C s d g as sh = cmQ C s d g as sh (List.filter (plainB s) (dedup (as.flatMap keysV))) := by
  unfold doCall cmQ cmK
  rw [h]
  simp only []
  split
  · rfl
  · split
    · rename_i hf; rw [hf]
    · rename_i as' hf
      rw [hf]
      split
      · rename_i hb; rw [hb]
      · rename_i bs hb
        rw [hb]
        simp only []
        unfold outM
        cases C g as' bs with
        | none => rfl
        | some o =>
          simp only [Option.bind_some, outMR]
          split
          · rfl
          · generalize List.filter (plainB s) (dedup (List.flatMap keysV as)) = ks
            cases back ks o.x.length s d o.r with
            | none => rfl
            | some r => cases backX ks o.x.length s d o.x <;> rfl

/-! What is handed out -/
def fx4 (x : List AV) (r : Option (List (List AV) × List Nat)) : Option (List (List AV) × List Nat) := match r with
  | some (xs, acc) => some (x :: xs, acc)
  | none => none
theorem fx4_some {x : List AV} {xs : List (List AV)} {acc : List Nat} : fx4 x (some (xs, acc)) = some (x :: xs, acc) := rfl
def fx5 (s : Nat → K) (n i : Nat) (r : Option (List AV × List Nat)) : Option (List (List AV) × List Nat) := match r with
  | some (x, acc) => fx4 x (finX s n (i + 1) acc)
  | none => none
theorem fx5_some {n i : Nat} {x : List AV} {acc : List Nat} : fx5 s n i (some (x, acc)) = fx4 x (finX s n (i + 1) acc) := rfl
def fx3 (s : Nat → K) (n i : Nat) (acc : List Nat) (els : List AV) (x : Option (List PV)) : Option (List (List AV) × List Nat) := match x with
  | some ps => fx5 s n i (some (ps.map .p, acc))
  | none => fx5 s n i (finVs s true acc [] els)
theorem fx3_some {n i : Nat} {acc : List Nat} {els : List AV} {ps : List PV} : fx3 s n i acc els (some ps) = fx4 (ps.map .p) (finX s n (i + 1) acc) := rfl
theorem fx3_none {n i : Nat} {acc : List Nat} {els : List AV} : fx3 s n i acc els none = fx5 s n i (finVs s true acc [] els) := rfl
def fx2 (s : Nat → K) (n i : Nat) (acc : List Nat) (x : K) : Option (List (List AV) × List Nat) := match x.2 with
  | some els => fx3 s n i acc els (plainAll els)
  | none => none
theorem fx2_some {n i v : Nat} {acc : List Nat} {els : List AV} : fx2 s n i acc (v, some els) = fx3 s n i acc els (plainAll els) := rfl
def fx1 (s : Nat → K) (n i : Nat) (acc : List Nat) (x : Option Nat) : Option (List (List AV) × List Nat) := match x with
  | some k => fx2 s n i acc (s k)
  | none => some ([], acc)
theorem fx1_some {n i k : Nat} {acc : List Nat} : fx1 s n i acc (some k) = fx2 s n i acc (s k) := rfl
theorem fx1_none {n i : Nat} {acc : List Nat} : fx1 s n i acc none = some ([], acc) := rfl
theorem finX_succ {n i : Nat} {acc : List Nat} : finX s (n + 1) i acc = fx1 s n i acc acc[i]? := by
  rw [finX]
  unfold fx1 fx2 fx3 fx5 fx4
  cases acc[i]? with
  | none => rfl
  | some k =>
    simp only []
    cases (s k).2 with
    | none => rfl
    | some els =>
      simp only []
      cases plainAll els with
      | some ps => simp only []; cases finX s n (i + 1) acc <;> rfl
      | none =>
        simp only []
        cases finVs s true acc [] els with
        | none => rfl
        | some q => obtain ⟨q1, q2⟩ := q; simp only []; cases finX s n (i + 1) q2 <;> rfl
theorem finX_nil : finX s 13 0 [] = some ([], []) := rfl
def fn1 (s : Nat → K) (nb : Nat) (x : AV) (r : Option (List (List AV) × List Nat)) : Option Out := match r with
  | some (xs, acc') => if (dedup acc').length = acc'.length then
      match handedBack s 0 nb with
      | some bs => some { r := x, b := bs, x := xs }
      | none => none
    else none
  | none => none
theorem fn1_some {nb : Nat} {x : AV} {xs : List (List AV)} {acc : List Nat} : fn1 s nb x (some (xs, acc)) = if (dedup acc).length = acc.length then (match handedBack s 0 nb with
      | some bs => some { r := x, b := bs, x := xs }
      | none => none) else none := rfl
theorem finish_eq {f : AF} {nb : Nat} {fr : Fr} : finish f nb fr = match resAll fr f.res with
  | none => none
  | some vs => match (match vs with
      | [x] => finV fr.s f.keep (if f.exp then [] else f.sh.headD []) [] x
      | vs => match finVs fr.s f.keep [] f.sh vs with
        | some (ys, acc) => match plainAll ys with
          | some ps => some (.p (.tup ps), acc)
          | none => some (.tu ys, acc)
        | none => none) with
    | none => none
    | some (x, acc) => fn1 fr.s nb x (finX fr.s 13 0 acc) := by
  rfl

/-! What lives on, one step at a time -/
theorem nameC_ms {new : Nat} {acc : List (Nat × Nat)} {k v o n z : Nat} : nameC s new acc (.ms k v o n z) = if (s k).1 = v then name1 acc k new else acc := rfl
theorem nameC_mp {new : Nat} {acc : List (Nat × Nat)} {k v o n : Nat} : nameC s new acc (.mp k v o n) = if (s k).1 = v then name1 acc k k else acc := rfl
theorem nameC_p {new : Nat} {acc : List (Nat × Nat)} {x : PV} : nameC s new acc (.p x) = acc := rfl
theorem nameC_e0 {new : Nat} {acc : List (Nat × Nat)} {z : Nat} : nameC s new acc (.e0 z) = acc := rfl
theorem nameC_ag {new : Nat} {acc : List (Nat × Nat)} {cs : List AV} : nameC s new acc (.ag cs) = acc := rfl
theorem nameC_tu {new : Nat} {acc : List (Nat × Nat)} {cs : List AV} : nameC s new acc (.tu cs) = acc := rfl
theorem nameC_cl {new : Nat} {acc : List (Nat × Nat)} {f : FuncId} {a c : List AV} : nameC s new acc (.cl f a c) = acc := rfl
theorem nameC_un {new : Nat} {acc : List (Nat × Nat)} : nameC s new acc .un = acc := rfl
/-- Names by place (no pairs: the kernel reckons with no number that stands in a pair beside a variable). -/
def nmZ (s : Nat → K) (m b : Nat) : Nat → List (Nat × Nat) → List AV → List (Nat × Nat)
  | _, acc, [] => acc
  | j, acc, x :: l => nmZ s m b (j + 1) (nameC s (m * (j + 1) + b) acc x) l
theorem nmZ_nil {m b j : Nat} {acc : List (Nat × Nat)} : nmZ s m b j acc [] = acc := rfl
theorem nmZ_cons {m b j : Nat} {acc : List (Nat × Nat)} {x : AV} {l : List AV} : nmZ s m b j acc (x :: l) = nmZ s m b (j + 1) (nameC s (m * (j + 1) + b) acc x) l := rfl
theorem nmZ_eq (k : Nat) : ∀ (l : List AV) (j : Nat) (acc : List (Nat × Nat)), ((l.zipIdx j).foldl (fun acc (x, j) => nameC s (5000000 * (j + 1) + k) acc x) acc) = nmZ s 5000000 k j acc l
  | [], _, _ => rfl
  | x :: l, j, acc => by rw [List.zipIdx_cons, List.foldl_cons, nmZ_eq k l]; rfl
def nmY (s : Nat → K) (i : Nat) : Nat → List (Nat × Nat) → List AV → List (Nat × Nat)
  | _, acc, [] => acc
  | j, acc, x :: l => nmY s i (j + 1) (nameC s (400000 + 1000 * j + i) acc x) l
theorem nmY_eq (i : Nat) : ∀ (l : List AV) (j : Nat) (acc : List (Nat × Nat)), ((l.zipIdx j).foldl (fun acc (x, j) => nameC s (400000 + 1000 * j + i) acc x) acc) = nmY s i j acc l
  | [], _, _ => rfl
  | x :: l, j, acc => by rw [List.zipIdx_cons, List.foldl_cons, nmY_eq i l]; rfl
theorem nameV_ag {i : Nat} {acc : List (Nat × Nat)} {cs : List AV} : nameV s i acc (.ag cs) = nmY s i 0 acc cs := nmY_eq i cs 0 acc
theorem nameV_p {i : Nat} {acc : List (Nat × Nat)} {x : PV} : nameV s i acc (.p x) = acc := rfl
theorem nameV_e0 {i : Nat} {acc : List (Nat × Nat)} {z : Nat} : nameV s i acc (.e0 z) = acc := rfl
theorem nameV_mp {i : Nat} {acc : List (Nat × Nat)} {k v o n : Nat} : nameV s i acc (.mp k v o n) = if (s k).1 = v then name1 acc k k else acc := rfl
theorem nameV_ms {i : Nat} {acc : List (Nat × Nat)} {k v o n z : Nat} : nameV s i acc (.ms k v o n z) = if (s k).1 = v then name1 acc k (3000 + i) else acc := rfl
theorem nameV_tu {i : Nat} {acc : List (Nat × Nat)} {cs : List AV} : nameV s i acc (.tu cs) = acc := rfl
theorem nameV_un {i : Nat} {acc : List (Nat × Nat)} : nameV s i acc .un = acc := rfl
theorem nameV_cl {i : Nat} {acc : List (Nat × Nat)} {f : FuncId} {a c : List AV} : nameV s i acc (.cl f a c) = (a ++ c).foldl (fun acc x => nameC s (3000 + i) acc x) acc := rfl
def nb2 (s : Nat → K) (k' : Nat) (r acc : List (Nat × Nat)) (els : List AV) (x : Option (List PV)) : List (Nat × Nat) := match x with
  | some _ => nameB s acc r
  | none => nameB s (nmZ s 5000000 k' 0 acc (cellsOf els)) r
theorem nb2_some {k' : Nat} {r acc : List (Nat × Nat)} {els : List AV} {ps : List PV} : nb2 s k' r acc els (some ps) = nameB s acc r := rfl
theorem nb2_none {k' : Nat} {r acc : List (Nat × Nat)} {els : List AV} : nb2 s k' r acc els none = nameB s (nmZ s 5000000 k' 0 acc (cellsOf els)) r := rfl
def nb1 (s : Nat → K) (k' : Nat) (r acc : List (Nat × Nat)) (x : K) : List (Nat × Nat) := match x.2 with
  | some els => nb2 s k' r acc els (plainAll els)
  | none => nameB s acc r
theorem nb1_some {k' v : Nat} {r acc : List (Nat × Nat)} {els : List AV} : nb1 s k' r acc (v, some els) = nb2 s k' r acc els (plainAll els) := rfl
theorem nb1_none {k' v : Nat} {r acc : List (Nat × Nat)} : nb1 s k' r acc (v, none) = nameB s acc r := rfl
theorem nameB_nil {acc : List (Nat × Nat)} : nameB s acc [] = acc := rfl
theorem nameB_cons {k k' : Nat} {r acc : List (Nat × Nat)} : nameB s acc ((k, k') :: r) = nb1 s k' r acc (s k) := by
  rw [nameB]
  unfold nb1 nb2
  cases (s k).2 with
  | none => rfl
  | some els =>
    simp only []
    cases plainAll els with
    | some ps => rfl
    | none => simp only [nmZ_eq]
def clnK (li : List Nat) (t : Nat → AV) (s : Nat → K) (ns : List (Nat × Nat)) : Fr :=
  { t := mkT (li.map fun i => (i, match t i with
      | .e0 z => if ns.all (fun q => q.2 != 3000 + i) then .ms (3000 + i) 0 0 0 z else .e0 z
      | x => renV s ns x))
    s := mkS ((ns.filterMap fun q => match (s q.1).2 with | some els => (match renBox s ns els with | some els' => some (q.2, els') | none => none) | none => none) ++
      li.filterMap fun i => match t i with | .e0 _ => if ns.all (fun q => q.2 != 3000 + i) then some (3000 + i, []) else none | _ => none) }
def cln2 (li : List Nat) (t : Nat → AV) (s : Nat → K) (n1 n2 : List (Nat × Nat)) : Fr := clnK li t s (nameB s n2 (n2.drop n1.length))
def cln1 (li : List Nat) (t : Nat → AV) (s : Nat → K) (n1 : List (Nat × Nat)) : Fr := cln2 li t s n1 (nameB s n1 n1)
theorem cln1_nil {li : List Nat} : cln1 li t s [] = clnK li t s [] := rfl
theorem cln1_cons {li : List Nat} {q : Nat × Nat} {n : List (Nat × Nat)} : cln1 li t s (q :: n) = cln2 li t s (q :: n) (nameB s (q :: n) (q :: n)) := rfl
theorem cln2_cons {li : List Nat} {n1 : List (Nat × Nat)} {q : Nat × Nat} {n : List (Nat × Nat)} : cln2 li t s n1 (q :: n) = clnK li t s (nameB s (q :: n) (List.drop n1.length (q :: n))) := rfl
/-- The names that a list of slots gives. -/
def nmsK (t : Nat → AV) (s : Nat → K) : List (Nat × Nat) → List Nat → List (Nat × Nat)
  | acc, [] => acc
  | acc, i :: l => nmsK t s (nameV s i acc (t i)) l
theorem nmsK_eq : ∀ (l : List Nat) (acc : List (Nat × Nat)), l.foldl (fun acc i => nameV s i acc (t i)) acc = nmsK t s acc l
  | [], _ => rfl
  | i :: l, acc => by rw [List.foldl_cons, nmsK_eq l]; rfl
theorem nmsK_nil {acc : List (Nat × Nat)} : nmsK t s acc [] = acc := rfl
theorem nmsK_cons {acc : List (Nat × Nat)} {i : Nat} {l : List Nat} : nmsK t s acc (i :: l) = nmsK t s (nameV s i acc (t i)) l := rfl
theorem clean_eq {li : List Nat} : clean li ⟨t, s⟩ = cln1 li t s (nmsK t s (homes s) li) := by
  rw [← nmsK_eq]; rfl
/-! the slots and boxes that are kept -/
def rnT (s : Nat → K) (ns : List (Nat × Nat)) (i : Nat) (x : AV) : AV := match x with
  | .e0 z => if ns.all (fun q => q.2 != 3000 + i) then .ms (3000 + i) 0 0 0 z else .e0 z
  | x => renV s ns x
def slT (t : Nat → AV) (s : Nat → K) (ns : List (Nat × Nat)) : List Nat → List (Nat × AV)
  | [] => []
  | i :: l => (i, rnT s ns i (t i)) :: slT t s ns l
def bxK (x : Option (List AV)) (k : Nat) (r : List (Nat × List AV)) : List (Nat × List AV) := match x with
  | some els => (k, els) :: r
  | none => r
theorem bxK_some {els : List AV} {k : Nat} {r : List (Nat × List AV)} : bxK (some els) k r = (k, els) :: r := rfl
theorem bxK_none {k : Nat} {r : List (Nat × List AV)} : bxK none k r = r := rfl
def rbK (s : Nat → K) (ns : List (Nat × Nat)) (x : K) : Option (List AV) := match x.2 with
  | some els => renBox s ns els
  | none => none
theorem rbK_some {ns : List (Nat × Nat)} {v : Nat} {els : List AV} : rbK s ns (v, some els) = renBox s ns els := rfl
theorem rbK_none {ns : List (Nat × Nat)} {v : Nat} : rbK s ns (v, none) = none := rfl
def bxS (s : Nat → K) (ns : List (Nat × Nat)) (r : List (Nat × List AV)) : List (Nat × Nat) → List (Nat × List AV)
  | [] => r
  | q :: l => bxK (rbK s ns (s q.1)) q.2 (bxS s ns r l)
def e0K (ns : List (Nat × Nat)) (i : Nat) (x : AV) (r : List (Nat × List AV)) : List (Nat × List AV) := match x with
  | .e0 _ => if ns.all (fun q => q.2 != 3000 + i) then (3000 + i, []) :: r else r
  | _ => r
def e0S (t : Nat → AV) (ns : List (Nat × Nat)) : List Nat → List (Nat × List AV)
  | [] => []
  | i :: l => e0K ns i (t i) (e0S t ns l)
theorem clnK_eq {li : List Nat} {ns : List (Nat × Nat)} : clnK li t s ns = ⟨mkT (slT t s ns li), mkS (bxS s ns (e0S t ns li) ns)⟩ := by
  have h1 : ∀ l : List Nat, (l.map fun i => (i, match t i with
      | .e0 z => if ns.all (fun q => q.2 != 3000 + i) then .ms (3000 + i) 0 0 0 z else .e0 z
      | x => renV s ns x)) = slT t s ns l := fun l => by
    induction l with
    | nil => rfl
    | cons i l ih =>
      rw [List.map_cons, ih, slT]
      unfold rnT
      cases t i <;> rfl
  have h2 : ∀ l : List Nat, (l.filterMap fun i => match t i with | .e0 _ => if ns.all (fun q => q.2 != 3000 + i) then some (3000 + i, ([] : List AV)) else none | _ => none) = e0S t ns l := fun l => by
    induction l with
    | nil => rfl
    | cons i l ih =>
      rw [List.filterMap_cons, ih, e0S]
      unfold e0K
      cases t i <;> simp only []
      generalize (ns.all fun q => q.snd != 3000 + i) = bb
      cases bb <;> rfl
  have h3 : ∀ (r : List (Nat × List AV)) (l : List (Nat × Nat)), (l.filterMap fun q => match (s q.1).2 with | some els => (match renBox s ns els with | some els' => some (q.2, els') | none => none) | none => none) ++ r = bxS s ns r l := fun r l => by
    induction l with
    | nil => rfl
    | cons q l ih =>
      rw [List.filterMap_cons, bxS]
      unfold rbK bxK
      cases (s q.1).2 with
      | none => simp only [ih]
      | some els =>
        simp only []
        cases renBox s ns els with
        | none => exact ih
        | some els' => exact congrArg _ ih
  unfold clnK
  rw [h1, h2, h3]

/-! Functions -/
def finK (af : AF) (n : Nat) (x : Option (AX × Fr)) : Option Out := match x with
  | some (.norm, fr) => finish af n fr
  | some (.ret, fr) => finish af n fr
  | _ => none
theorem finK_norm {af : AF} {n : Nat} {fr : Fr} : finK af n (some (.norm, fr)) = finish af n fr := rfl
theorem finK_ret {af : AF} {n : Nat} {fr : Fr} : finK af n (some (.ret, fr)) = finish af n fr := rfl
theorem finK_ite {af : AF} {n : Nat} {c : Prop} [Decidable c] {a b : Option (AX × Fr)} : finK af n (if c then a else b) = if c then finK af n a else finK af n b := by split <;> rfl
theorem fn_eq {f : FuncId} {af : AF} (h : E.fn f = some af) (as : List AV) (bs : List (List PV)) : CF E f as bs = if as.length = af.np then finK af bs.length (exec E (CF E) (CL E) af.code (enter as bs)) else none := by
  rw [CF_eq, body, h]
  simp only []
  unfold finK
  split
  · split <;> simp_all
  · rfl
theorem ext_eq {f : FuncId} (h : E.fn f = none) (as : List AV) (bs : List (List PV)) : CF E f as bs = E.ext f as bs := by
  rw [CF_eq, body, h]
noncomputable def lopK (E : Env) (li lo : List Nat) (b : AC) (x : Option (AX × Fr)) : Option (AX × Fr) := match x with
  | some (.norm, fr') => CL E li lo b (clean li fr')
  | some (e, fr') => some (e, clean lo fr')
  | none => none
theorem lopK_norm {li lo : List Nat} {b : AC} {fr : Fr} : lopK E li lo b (some (.norm, fr)) = CL E li lo b (clean li fr) := rfl
theorem lopK_ex {li lo : List Nat} {b : AC} {i : Nat} {fr : Fr} : lopK E li lo b (some (.ex i, fr)) = some (.ex i, clean lo fr) := rfl
theorem lopK_ret {li lo : List Nat} {b : AC} {fr : Fr} : lopK E li lo b (some (.ret, fr)) = some (.ret, clean lo fr) := rfl
theorem lopK_ite {li lo : List Nat} {b : AC} {c : Prop} [Decidable c] {x y : Option (AX × Fr)} : lopK E li lo b (if c then x else y) = if c then lopK E li lo b x else lopK E li lo b y := by split <;> rfl
theorem loop_eq {li lo : List Nat} {b : AC} {fr : Fr} : CL E li lo b fr = lopK E li lo b (exec E (CF E) (CL E) b fr) := by
  rw [CL_eq]; rfl
theorem CL_congr {li lo : List Nat} {b : AC} {fr fr' : Fr} (h : fr = fr') : CL E li lo b fr = CL E li lo b fr' := by rw [h]
end
end
end Go.Proofs.YtjlebmnlphjjoaaGreatDoor.Abs
namespace Go.Proofs.YtjlebmnlphjjoaaGreatDoor.Abs

attribute [congr] seqK_congr runK_congr runN_congr stpK_congr stpN_congr cndK_congr gdK_congr elK_congr elK2_congr elsK_congr CL_congr
theorem ex_ite {α : Type} {c : Prop} [Decidable c] {a b : Option α} {k : α → α} : (if c then a else b).map k = if c then a.map k else b.map k := by split <;> rfl
theorem PV_cells_int {k : IntKind} {n : Int} : (PV.int k n).cells = [.int k n] := rfl
theorem PV_cells_bool {b : Bool} : (PV.bool b).cells = [.bool b] := rfl
theorem PV_cells_str {b : ByteArray} : (PV.str b).cells = [.str b] := rfl
theorem PV_cells_agg {cs : List PV} : (PV.agg cs).cells = cs := rfl
theorem PV_cells_ls {z : Nat} {cs : List PV} : (PV.ls z cs).cells = [.ls z cs] := rfl
theorem PV_cells_fp {z : Nat} {cs : List PV} : (PV.fp cs z).cells = [.fp cs z] := rfl
theorem PV_cells_nls : PV.nls.cells = [.nls] := rfl
theorem PV_cells_nilp : PV.nilp.cells = [.nilp] := rfl
theorem AV_cells_agg {cs : List PV} : (AV.p (.agg cs)).cells = cs.map .p := rfl
theorem AV_cells_ag {cs : List AV} : (AV.ag cs).cells = cs := rfl
theorem AV_cells_int {k : IntKind} {n : Int} : (AV.p (.int k n)).cells = [.p (.int k n)] := rfl
theorem AV_cells_bool {b : Bool} : (AV.p (.bool b)).cells = [.p (.bool b)] := rfl
theorem AV_cells_str {b : ByteArray} : (AV.p (.str b)).cells = [.p (.str b)] := rfl
theorem AV_cells_ls {z : Nat} {xs : List PV} : (AV.p (.ls z xs)).cells = [.p (.ls z xs)] := rfl
theorem AV_cells_fp {z : Nat} {xs : List PV} : (AV.p (.fp xs z)).cells = [.p (.fp xs z)] := rfl
theorem AV_cells_fn {f : FuncId} {a c : List PV} : (AV.p (.fn f a c)).cells = [.p (.fn f a c)] := rfl
theorem AV_cells_nls : (AV.p .nls).cells = [.p .nls] := rfl
theorem AV_cells_nilp : (AV.p .nilp).cells = [.p .nilp] := rfl
theorem AV_cells_nilf : (AV.p .nilf).cells = [.p .nilf] := rfl
theorem AV_cells_ms {k v o n z : Nat} : (AV.ms k v o n z).cells = [.ms k v o n z] := rfl
theorem AV_cells_mp {k v o n : Nat} : (AV.mp k v o n).cells = [.mp k v o n] := rfl
theorem AV_cells_e0 {z : Nat} : (AV.e0 z).cells = [.e0 z] := rfl
theorem int_zero_le_cast (n : Nat) : (0 ≤ (n : Int)) = True := by simp
theorem map_p_inj {α : Type} (f : α → PV) (l : List α) : List.map AV.p (l.map f) = l.map (fun a => .p (f a)) := by simp
def andK (o r : Option Bool) : Option Bool := match o with | some true => r | some false => some false | none => none
theorem andK_bb {b c : Bool} : andK (some b) (some c) = some (b && c) := by cases b <;> rfl
theorem eqCells_nil : eqCells [] [] [] = some true := rfl
theorem eqCells_cons {k : Nat} {ks : List Nat} {x y : PV} {xs ys : List PV} : eqCells (k :: ks) (x :: xs) (y :: ys) = andK (eqCell k x y) (eqCells ks xs ys) := by
  rw [eqCells]
  cases eqCell k x y with
  | none => rfl
  | some b => cases b <;> rfl
def boK (o : Option Bool) : Option AV := match o with | some r => some (.p (.bool r)) | none => none
theorem boK_some {b : Bool} : boK (some b) = some (.p (.bool b)) := rfl
def boN (o : Option Bool) : Option AV := match o with | some r => some (.p (.bool !r)) | none => none
theorem boN_some {b : Bool} : boN (some b) = some (.p (.bool !b)) := rfl
theorem bin_eql_agg {ks : List Nat} {xs ys : List PV} : binAV .eql (5, ks) (.p (.agg xs)) (.p (.agg ys)) = boK (eqCells ks xs ys) := rfl
theorem bin_neq_agg {ks : List Nat} {xs ys : List PV} : binAV .neq (5, ks) (.p (.agg xs)) (.p (.agg ys)) = boN (eqCells ks xs ys) := rfl
theorem tx_extract (l : List Nat) (a b : Nat) : (tx l).extract a b = tx ((l.take b).drop a) := by
  unfold tx
  apply ByteArray.ext
  simp [ByteArray.data_extract, List.drop_take]
theorem tx_append (l k : List Nat) : tx l ++ tx k = tx (l ++ k) := by
  unfold tx
  apply ByteArray.ext
  simp [ByteArray.data_append]
theorem tx_size_append (a b : ByteArray) : (a ++ b).size = a.size + b.size := ByteArray.size_append
theorem tx_nil : tx [] = .empty := by unfold tx; rfl
def appO (x y : Option (List PV)) : Option (List PV) := match x, y with | some a, some b => some (a ++ b) | _, _ => none
theorem appO_some {a b : List PV} : appO (some a) (some b) = some (a ++ b) := rfl
theorem plainAll_append : ∀ (xs ys : List AV), plainAll (xs ++ ys) = appO (plainAll xs) (plainAll ys)
  | [], ys => by
    simp only [List.nil_append, plainAll, appO]
    cases plainAll ys <;> rfl
  | x :: xs, ys => by
    have ih := plainAll_append xs ys
    cases x with
    | p v =>
      simp only [List.cons_append, plainAll, ih]
      cases plainAll xs <;> cases plainAll ys <;> simp [appO]
    | _ => simp [plainAll, appO]
theorem take_len_map {α β : Type} (f : α → β) (l : List α) : List.take l.length (List.map f l) = List.map f l := by
  rw [List.take_of_length_le]; simp
theorem take_len_map2 {α β γ : Type} (f : β → γ) (g : α → β) (l : List α) : List.take l.length (List.map f (List.map g l)) = List.map f (List.map g l) := by
  rw [List.take_of_length_le]; simp
theorem drop_at {β : Type} {L R : List β} {y : β} {n : Nat} (h : L.length = n) : List.drop (n + 1) (L ++ y :: R) = R := by
  subst h; simp
theorem take_at {β : Type} {L R : List β} {n : Nat} (h : L.length = n) : List.take n (L ++ R) = L := by
  subst h; simp
theorem drop_at0 {β : Type} {L R : List β} {n : Nat} (h : L.length = n) : List.drop n (L ++ R) = R := by
  subst h; simp
theorem take_full {β : Type} {L : List β} {n : Nat} (h : L.length = n) : List.take n L = L := by
  subst h; simp
theorem appc {α : Type} {N D l : List α} {a : α} (h : D ++ a :: l = N) : D.length < N.length ∧ N[D.length]? = some a ∧ (D ++ [a]) ++ l = N := by
  subst h; simp
theorem testBit_div (m n : Nat) : Nat.testBit m n = decide (m / 2 ^ n % 2 = 1) := by
  rw [Nat.testBit_eq_decide_div_mod_eq]
/-- A row that is written within its room. -/
theorem apK_in {k v ver o n z : Nat} {ys els : List AV} (h : o + n + ys.length ≤ els.length) : apK k v ver o n z ys (some els) = some (.ms k v o (n + ys.length) z, [(k, (ver, some (els.take (o + n) ++ ys ++ els.drop (o + n + ys.length))))]) := by
  simp only [apK]
  rw [if_pos h]
theorem clrK_ms {s : Nat → K} {el : PV} {k v o n z : Nat} : clrK s el (.ms k v o n z) = clK k v (s k).1 o n z el (lk s k v) := rfl
theorem clK_some {k v ver o n z : Nat} {el : PV} {els : List AV} (h : o + n ≤ els.length) (hz : z = (AV.p el).cells.length) : clK k v ver o n z el (some els) = some (.un, [(k, (ver, some (els.take o ++ List.replicate n (.p el) ++ els.drop (o + n))))]) := by
  simp only [clK]; rw [if_pos ⟨h, hz⟩]
/-- The loops' rounds, in the order of the text. -/
def loopsOf : AC → List AC
  | .seq a b => loopsOf a ++ loopsOf b
  | .cond _ a b => loopsOf a ++ loopsOf b
  | .block _ b => loopsOf b
  | .loop _ _ b => b :: loopsOf b
  | _ => []
def lb (f : AF) (n : Nat) : AC := (loopsOf f.code).getD n .no
theorem dropc {α : Type} {N l : List α} {a : α} {i : Nat} (h : N.drop i = a :: l) : i < N.length ∧ N[i]? = some a ∧ N.drop (i + 1) = l ∧ N.take (i + 1) = N.take i ++ [a] := by
  have h1 : i < N.length := by
    apply Decidable.byContradiction
    intro hc
    rw [List.drop_eq_nil_of_le (by omega)] at h
    cases h
  rw [List.drop_eq_getElem_cons h1] at h
  injection h with h2 h3
  refine ⟨h1, by rw [List.getElem?_eq_getElem h1, h2], h3, ?_⟩
  rw [List.take_succ_eq_append_getElem h1, h2]
theorem dropn {α : Type} {N : List α} {i : Nat} (h : N.drop i = []) : N.length ≤ i := List.drop_eq_nil_iff.1 h
/-- A number that fits. -/
theorem w64 {n : Int} (h0 : -9223372036854775808 ≤ n) (h : n < 9223372036854775808) : IntKind.wrap .i64 n = n := by
  simp [IntKind.wrap, IntKind.bits, IntKind.signed]; omega
theorem w64s {n : Nat} (h : n < 4611686018427387904) : IntKind.wrap .i64 ((n : Int) + 1) = ((n + 1 : Nat) : Int) := w64 (by omega) (by omega)

theorem pK_none : pK none = none := rfl
theorem blkK_none {id : Nat} : blkK id none = none := rfl
theorem nrmK_none : nrmK none = none := rfl
theorem drwK_none {bef : List Nat} {n : Nat} : drwK bef n none = none := rfl
theorem finK_none {af : AF} {n : Nat} : finK af n none = none := rfl
theorem lopK_none {E : Env} {li lo : List Nat} {b : AC} : lopK E li lo b none = none := rfl
attribute [go_sem ↓] reduceIte exec_skip exec_exit exec_ret exec_seq exec_cond exec_block exec_loop exec_run exec_draw run_nil run_some run_none run_guard run_guard0 steps_nil steps_some steps_none steps_guard steps_guard0 gv_t gv_c gv_f upd_at mkT_cons mkT_nil mkS_cons mkS_nil updAll_nil updAll_cons
  sem_mv sem_mvl sem_pick sem_alloc sem_box sem_build sem_mkls0 sem_mkls sem_mklsm sem_load sem_store sem_nilck sem_bin sem_un sem_conv sem_bts sem_mkfn sem_mksl sem_slc sem_fad sem_fld sem_iad sem_idx sem_ext sem_call sem_len sem_maxmin sem_app sem_clear lk_eq
attribute [go_sem] mvlP_some mvlK_ms take_full Int.sub_zero Nat.sub_zero take_len_map2 drop_at take_at drop_at0 clrK_ms clK_some plainAll_append appO_some Int.le_refl take_len_map List.take_length List.map_append List.length_append testBit_div tx_size tx_size_append tx_extract w64 Int.reduceTDiv Int.reduceTMod
attribute [go_sem high] bin_eql_agg bin_neq_agg
attribute [go_sem] andK_bb eqCells_nil eqCells_cons boK_some boN_some lb.eq_def loopsOf pK_none runK_none runK_some runK_ite runN_none runN_some runN_ite stpK_none stpK_some stpK_ite stpN_none stpN_some stpN_ite seqK_none blkK_none nrmK_none drwK_none finK_none lopK_none seqK_norm seqK_ex seqK_ret seqK_ite blkK_norm blkK_ret blkK_ex blkK_ite cndK_t cndK_f cndK_b nrmK_some nrmK_ite drwK_some drwK_ite  gdK_s gdK_t gdK_f
  pK_some pK_ite bldK_some frK_some elK_some elK2_some ldK_mp ldK_fp ifK setK_some stK_mp nilK_mp nilK_fp cvK_int strK_some btK_ls fnK_p fnK_c1 fnK_c2 mkK_int boundK_some slc_str slc_ls slc_ms slc_msx elsK_some optInt_none optInt_some intOf_int fadK_mp fadK_fp fldK_p fldK_a fpK_some iadK_ls iadK_ms iadK_amp iadK_afp u8K_some idxK_str idxK_agg pvK_some extK_p extK_t calK_some lenK_str lenK_ls lenK_nls lenK_e0 lenK_ms mmK_max mmK_min appK_e0 appK_nls appK_ms apK_same lkK_at
  bpK_some bpK_none cnsK_some backX_nil backX_cons outP_p outR_some outP_x outP_ite cpK_some doCall_pure freezesX_eq fxK_some fxK_none outBR_some outB2_eq outB_some outB_ag outB_tu outB_ms outB_ite cbK_some doCall_borrow outM_p outMR_some outM_x outM_ite cmK_some cmQ_eq plainB_eq pbK_some pbK_none filt_nil filt_cons doCall_mu fx4_some fx5_some fx3_some fx3_none fx2_some fx1_some fx1_none finX_succ finX_nil fn1_some flat0.eq_def flat1.eq_def flatC.eq_def flatV.eq_def flatA.eq_def atomA.eq_def freezeE.eq_def freezeEs freezeCD.eq_def freezeCDs frzD.eq_def freezesD keysI.eq_def keysD.eq_def List.range.eq_def List.range.loop finK_norm finK_ret finK_ite lopK_norm lopK_ex lopK_ret lopK_ite
  PV_cells_int PV_cells_bool PV_cells_str PV_cells_agg PV_cells_ls PV_cells_fp PV_cells_nls PV_cells_nilp AV_cells_agg AV_cells_ag AV_cells_int AV_cells_bool AV_cells_str AV_cells_ls AV_cells_fp AV_cells_fn AV_cells_nls AV_cells_nilp AV_cells_nilf AV_cells_ms AV_cells_mp AV_cells_e0
  int_zero_le_cast plainAll_map plainAll ofCells.eq_def pcells.eq_def vok.eq_def cellish.eq_def freezeC.eq_def freezeCs normC.eq_def normCs normP.eq_def frz.eq_def freezes keysC.eq_def keysV.eq_def kill.eq_def posOf handC.eq_def handCs hand.eq_def hands dedup blocksOf xkey.eq_def backC.eq_def backCs backV.eq_def backVs back.eq_def putBlocks newBlocks isAtom.eq_def callee.eq_def binInt.eq_def binStr.eq_def eqCell.eq_def eqB.eq_def eqPtr.eq_def eqSl.eq_def eqFn.eq_def eqSt.eq_def isNil.eq_def eqAV.eq_def binAV.eq_def unAV.eq_def fillCells setEl.eq_def bytesOf tailOf.eq_def foot.eq_def name1.eq_def nameC_ms nameC_mp nameC_p nameC_e0 nameC_ag nameC_tu nameC_cl nameC_un renC.eq_def renV.eq_def okRenC.eq_def okRen.eq_def renBox.eq_def nameV_ag nameV_p nameV_e0 nameV_mp nameV_ms nameV_tu nameV_un nameV_cl nmY nmZ_nil nmZ_cons nb2_some nb2_none nb1_some nb1_none nameB_nil nameB_cons cellsOf.eq_def homes.eq_def clean_eq cln1_nil cln1_cons cln2_cons clnK_eq nmsK_nil nmsK_cons rnT.eq_def slT bxK_some bxK_none rbK_some rbK_none bxS e0K.eq_def e0S finC.eq_def finCs handed.eq_def finV.eq_def finVs resOf.eq_def resAll handedBack finish_eq enter.eq_def
  List.zipIdx List.map List.lookup List.length_map List.length_cons List.length_nil List.foldl List.filterMap List.append_nil List.nil_append List.cons_append Nat.zero_add Nat.add_zero List.all List.any List.set List.headD_cons List.headD_nil List.tail_cons List.tail_nil List.flatMap_cons List.flatMap_nil List.getElem?_cons_zero List.getElem?_cons_succ List.getElem?_nil List.drop List.take List.getD_cons_zero List.getD_cons_succ List.replicate List.contains_cons List.contains_nil List.elem_cons List.elem_nil List.elem List.getElem?_map
  Option.map_some Option.map_none Option.bind_some Option.bind_none Option.isNone_none Option.isNone_some Option.isSome_none Option.isSome_some Option.getD Int.toNat_natCast
  if_true if_false and_self and_true true_and false_and and_false or_true true_or or_false false_or decide_true decide_false not_true_eq_false not_false_eq_true Bool.and_true Bool.true_and Bool.and_false Bool.false_and Bool.or_false Bool.or_true Bool.true_or Bool.false_or Bool.not_true Bool.not_false Bool.not_not Bool.and_self bne_self_eq_false beq_self_eq_true Bool.false_eq_true Bool.true_beq Bool.false_beq beq_true beq_false ne_eq Nat.le_refl
  Nat.reduceBEq Nat.reduceEqDiff Nat.reduceAdd Nat.reduceLeDiff Nat.reduceSub Nat.reduceMul Nat.reduceLT Nat.reduceBneDiff Nat.reducePow Nat.reduceDiv Nat.reduceMod Int.reduceNeg Int.reduceGT Int.reduceGE Int.reduceBEq Int.reduceBNe Int.reduceLT Int.reduceLE Int.reduceEq Int.reduceToNat Int.reduceAdd Int.reduceSub Int.reduceMul Nat.reduceEqDiff decide_eq_true_eq Int.reduceOfNat Int.reduceNegSucc Int.natCast_zero Int.cast_ofNat_Int Bool.cond_eq_ite
attribute [go_sem ↓] List.map_cons List.map_nil List.foldl_cons List.foldl_nil List.filterMap_nil List.all_cons List.all_nil List.any_cons List.any_nil List.flatMap_cons List.flatMap_nil List.filter_nil nmsK_cons nmsK_nil
attribute [go_sem ↓] pK_none runK_none runK_some runK_ite runN_none runN_some runN_ite stpK_none stpK_some stpK_ite stpN_none stpN_some stpN_ite seqK_none blkK_none nrmK_none drwK_none finK_none lopK_none seqK_norm seqK_ex seqK_ret seqK_ite blkK_norm blkK_ret blkK_ex blkK_ite cndK_t cndK_f cndK_b nrmK_some nrmK_ite drwK_some drwK_ite gdK_s gdK_t gdK_f
end Go.Proofs.YtjlebmnlphjjoaaGreatDoor.Abs
