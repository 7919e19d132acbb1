import Derived.Test.YtjlebmnlphjjoaaDoZc
import Derived.Shelf.SlSortCmp.NoneTotal
import Derived.Test.YtjlebmnlphjjoaaChecked
set_option linter.unusedVariables false
set_option linter.unusedSimpArgs false
/- slices.SortFunc at rows of four numbers, by the library's shelf; no condition beside the shelf's laying. -/
open Go Go.Proofs.Ytjlebmnlphjjoaa.Abs
namespace Go.Proofs.Ytjlebmnlphjjoaa.Fx
set_option maxRecDepth 100000
set_option maxHeartbeats 4000000
set_option linter.unusedSimpArgs false
set_option linter.unusedVariables false
open Go.Sort (putRow mapBlock onCells putCells Holds SWO PermIn SortedIn ahead grow)
/-! the order of rows -/
theorem lt4 (x y : R4) : cmp4 x y < 0 ↔ (x.a < y.a ∨ x.a = y.a ∧ (x.b < y.b ∨ x.b = y.b ∧ (x.c < y.c ∨ x.c = y.c ∧ x.d < y.d))) := by
  unfold cmp4
  repeat' split
  all_goals constructor <;> intro <;> omega
theorem le4_total (x y : R4) : ¬ cmp4 x y < 0 ∨ ¬ cmp4 y x < 0 := by rw [lt4, lt4]; omega
theorem le4_trans {x y z : R4} (h1 : ¬ cmp4 y x < 0) (h2 : ¬ cmp4 z y < 0) : ¬ cmp4 z x < 0 := by rw [lt4] at *; omega
theorem lt4_trans {x y z : R4} (h1 : cmp4 x y < 0) (h2 : cmp4 y z < 0) : cmp4 x z < 0 := by rw [lt4] at *; omega
theorem le4_antisymm {x y : R4} (h1 : ¬ cmp4 y x < 0) (h2 : ¬ cmp4 x y < 0) : x = y := by
  rw [lt4] at *
  obtain ⟨a, b, c, d⟩ := x; obtain ⟨e, f, g, h⟩ := y
  simp only [R4.mk.injEq] at *
  omega
theorem ins4_perm (x : R4) : ∀ l, (ins4 x l).Perm (x :: l)
  | [] => .refl _
  | y :: l => by
    unfold ins4
    split
    · exact ((ins4_perm x l).cons y).trans (.swap x y l)
    · exact .refl _
theorem srt_perm : ∀ l, (srt l).Perm l
  | [] => .refl _
  | x :: l => (ins4_perm x (srt l)).trans ((srt_perm l).cons x)
theorem ins4_sorted (x : R4) : ∀ l : List R4, l.Pairwise (fun a b => ¬ cmp4 b a < 0) → (ins4 x l).Pairwise (fun a b => ¬ cmp4 b a < 0)
  | [], _ => by simp [ins4]
  | y :: l, h => by
    rw [List.pairwise_cons] at h
    unfold ins4
    split
    · rename_i hlt
      rw [List.pairwise_cons]
      refine ⟨fun z hz => ?_, ins4_sorted x l h.2⟩
      rcases List.mem_cons.1 ((ins4_perm x l).mem_iff.1 hz) with rfl | hz
      · rw [lt4] at *; omega
      · exact h.1 z hz
    · rename_i hge
      rw [List.pairwise_cons, List.pairwise_cons]
      refine ⟨fun z hz => ?_, h⟩
      rcases List.mem_cons.1 hz with rfl | hz
      · exact hge
      · exact le4_trans hge (h.1 z hz)
theorem srt_sorted : ∀ l : List R4, (srt l).Pairwise (fun a b => ¬ cmp4 b a < 0)
  | [] => .nil
  | x :: l => ins4_sorted x _ (srt_sorted l)
theorem srt_unique {l m : List R4} (hp : m.Perm l) (hs : m.Pairwise (fun a b => ¬ cmp4 b a < 0)) : m = srt l :=
  List.Perm.eq_of_pairwise (le := fun a b => ¬ cmp4 b a < 0) (fun a b _ _ h1 h2 => le4_antisymm h1 h2) hs (srt_sorted l) (hp.trans (srt_perm l).symm)
theorem un4s_some : ∀ {b : List PV} {l : List R4}, un4s b = some l → b = l.map r4
  | [], l, h => by simp [un4s] at h; subst h; rfl
  | x :: b, l, h => by
    simp only [un4s] at h
    split at h
    · rename_i r rs h1 h2
      simp only [Option.some.injEq] at h; subst h
      have hx : x = r4 r := by
        unfold un4 at h1
        split at h1
        · simp only [Option.some.injEq] at h1; subst h1; rfl
        · cases h1
      rw [List.map_cons, ← hx, un4s_some h2]
    · cases h
/-! worlds -/
theorem quiet_grow {W w' : World} (h1 : w'.os = W.os) (h2 : w'.tape = W.tape) (h3 : Quiet W w') (hs : W.heap.size ≤ w'.heap.size) (hold : ∀ b, b < W.heap.size → w'.heap[b]? = W.heap[b]?) : ∃ q os', w' = grow (W.drewN q) os' := by
  refine ⟨w'.drawn - W.drawn, w'.heap.extract W.heap.size w'.heap.size, ?_⟩
  obtain ⟨h, t, d, o, p⟩ := w'
  obtain ⟨H, T, D, O, P⟩ := W
  obtain ⟨h4, h5⟩ := h3
  simp only at h1 h2 h4 h5 hs hold
  subst h1; subst h2; subst h4
  have hd : D + (d - D) = d := by omega
  have hh : h = H ++ h.extract H.size h.size := ?_
  · simp only [grow, World.drewN, hd]
    rw [← hh]
  apply Array.ext_getElem?
  intro k
  by_cases hk : k < H.size
  · rw [Array.getElem?_append_left hk, hold k hk]
  · rw [Array.getElem?_append_right (by omega), Array.getElem?_extract]
    by_cases hk2 : k < h.size
    · rw [if_pos (by omega)]; congr 1; omega
    · rw [if_neg (by omega), Array.getElem?_eq_none (by omega)]
section
variable {α : Type} [Inhabited α] {enc : α → Value} {w : World} {blk off m : Nat} {dk : Array α} {os : Array Obj}
theorem sw_size : (sortWorld enc w blk off m dk os).heap.size = w.heap.size + os.size := by
  simp [sortWorld, grow, putRow, mapBlock, ahead]
theorem sw_other {b : Nat} (h : b ≠ blk) (hb : b < w.heap.size) : (sortWorld enc w blk off m dk os).heap[b]? = w.heap[b]? := by
  simp only [sortWorld, grow, putRow, mapBlock]
  rw [Array.getElem?_append_left (by simpa [ahead] using hb), Array.getElem?_modify, if_neg (Ne.symm h)]; rfl
theorem sw_blk {c : Array Value} {t : TypeId} {fr : Nat × Nat} (h : w.heap[blk]? = some (.cells c t fr)) : (sortWorld enc w blk off m dk os).heap[blk]? = some (.cells (putCells enc off dk c) t fr) := by
  have hb := (Array.getElem?_eq_some_iff.1 h).1
  simp only [sortWorld, grow, putRow, mapBlock]
  rw [Array.getElem?_append_left (by simpa [ahead] using hb), Array.getElem?_modify, if_pos rfl]
  show Option.map _ (w.heap[blk]?) = _
  rw [h]; rfl
end
theorem one4 {fz : Fz} {v : Value} {r : R4} (h : RepP fz v (r4 r)) : v.oneCell' = true := by
  unfold r4 at h
  cases h with | ls b o cap s xs h1 h2 => rfl
theorem outS_one {r : AV} {b : List PV} {k : Nat} {els : List AV} (h : (outS ⟨r, [b], []⟩ k).2 = some els) : k = 900 ∧ els = b.map .p := by
  unfold outS at h
  split at h
  · simp at h
  · split at h
    · rcases Nat.lt_or_ge 900 k with hk | hk
      · rw [show (Out.mk r [b] []).b[k - 900]? = none from List.getElem?_eq_none (by simp; omega)] at h; simp at h
      · obtain rfl : k = 900 := by omega
        simp only [Nat.sub_self, List.getElem?_cons_zero, Option.some.injEq] at h
        exact ⟨rfl, h.symm⟩
    · simp at h
theorem io_same (b : List (List PV)) (r : AV) (hb : b.length ≤ 50) : outS ⟨r, b, []⟩ = inS b := by
  funext k
  unfold outS inS
  by_cases h1 : k < 900
  · rw [if_pos h1, if_pos h1]
  · rw [if_neg h1, if_neg h1]
    by_cases h2 : k < 950
    · rw [if_pos h2]
    · rw [if_neg h2]
      have : b[k - 900]? = none := List.getElem?_eq_none (by omega)
      rw [this]; rfl
/-- A value, and the row that it stands for. -/
abbrev Row4 (fz : Fz) := { q : Value × R4 // q.1.oneCell' = true ∧ RepP fz q.1 (r4 q.2) }
def cf4 (fz : Fz) (x y : Row4 fz) : Int := cmp4 x.1.2 y.1.2
theorem swo4 (fz : Fz) : SWO (ltOf (cf4 fz)) := by
  refine ⟨fun x => ?_, fun x y z h1 h2 => ?_, fun x y z h1 h2 => ?_⟩
  · simp only [ltOf, cf4, decide_eq_false_iff_not]
    exact decide_eq_false (by rcases le4_total x.1.2 x.1.2 with h | h <;> exact h)
  · exact decide_eq_true (lt4_trans (of_decide_eq_true h1) (of_decide_eq_true h2))
  · exact decide_eq_false (le4_trans (of_decide_eq_false h2) (of_decide_eq_false h1))
theorem sorted_list {fz : Fz} [Inhabited (Row4 fz)] {d d' : Array (Row4 fz)} {l : List R4} (hd : d.size = l.length) (hdv : ∀ i, i < l.length → l[i]? = some d[i]!.1.2) (hp : PermIn 0 d.size d d') (hs : SortedIn (ltOf (cf4 fz)) 0 d.size d') :
    d'.size = l.length ∧ ∀ j, j < l.length → (srt l)[j]? = some d'[j]!.1.2 := by
  obtain ⟨h1, _, h3⟩ := hp
  have e1 : l = d.toList.map fun q => q.1.2 := by
    apply List.ext_getElem?
    intro i
    by_cases hi : i < l.length
    · rw [hdv i hi]; simp [hd, hi]
    · rw [List.getElem?_eq_none (by omega), List.getElem?_eq_none (by simp; omega)]
  have e2 : (d'.toList.map fun q => q.1.2) = srt l := by
    refine srt_unique ?_ ?_
    · rw [e1]
      rw [Array.extract_eq_self_of_le (by omega), Array.extract_eq_self_of_le (by omega)] at h3
      exact h3.map _
    · rw [List.pairwise_iff_getElem]
      intro i j hi hj hij
      simp only [List.length_map, Array.length_toList] at hi hj
      have := hs i j (Nat.zero_le _) hij (by omega)
      rw [getElem!_pos d' i (by omega), getElem!_pos d' j (by omega)] at this
      simpa [ltOf, cf4] using of_decide_eq_false this
  refine ⟨by omega, fun j hj => ?_⟩
  rw [← e2]
  simp [show j < d'.size by omega]
/-- How rows are compared, in any world that keeps what is laid down. -/
theorem cmp_any {fz : Fz} {W : World} (hfz : ∀ b o v, fz b o = some v → W.cell? ⟨b, o, none⟩ = some v) (x y : Row4 fz) :
    Calls Try.prog 68 (#[x.1.1, y.1.1] ++ #[]) W fun e w' => e = .returned (.int .i64 (cf4 fz x y)) ∧ ∃ q os', w' = grow (W.drewN q) os' := by
  have no : ∀ {k : Nat} {els : List AV}, (inS [] k).2 = some els → False := fun hk => by
    obtain ⟨j, b, _, h2, _⟩ := inS_some hk; simp at h2
  have hI : Inv W (inPl { fz := fz, bk := fun _ => none } []) fz { fz := fz, bk := fun _ => none } (inS []) W :=
    ⟨rfl, rfl, ⟨rfl, Nat.le_refl _⟩, Nat.le_refl _, fun _ _ _ => rfl, Fz.le_refl _, hfz, fun _ _ _ hv => .inl hv, fun k els hk => (no hk).elim, fun k els p hk => (no hk).elim, fun k k' els els' p p' hk => (no hk).elim⟩
  obtain ⟨_, hc⟩ := CF_sound E0_ok _ _ _ _ (n0_68 x.1.2 y.1.2) (by simp) W { fz := fz, bk := fun _ => none } [x.1.1, y.1.1] hI ⟨x.2.2, y.2.2, trivial⟩
  refine hc.mono fun e w' he => ?_
  obtain ⟨v, rfl, g', hI', _, _, hrep⟩ := he
  have hv : v = .int .i64 (cmp4 x.1.2 y.1.2) := by
    have : RepP g'.fz v (.int .i64 (cmp4 x.1.2 y.1.2)) := hrep
    cases this; rfl
  refine ⟨by rw [hv]; rfl, quiet_grow hI'.os hI'.tape hI'.output hI'.size fun b hb => hI'.old b hb ?_⟩
  rintro ⟨j, p, hj, _⟩
  simp at hj
theorem sort_ok {ρ : Go.Shelf.Ren} (L : SlLaysF.n6 Try.prog ρ) (hρ : ρ.f 6 = 67) (vs : List AV) (bs : List (List PV)) (out : Out) (h : extT 67 vs bs = some out) : CallOk Try.prog 67 vs bs out := by
  simp only [extT, if_true] at h
  split at h
  · rename_i n b
    split at h
    · rename_i hn
      split at h
      · rename_i l hl
        simp only [Option.some.injEq] at h; subst h
        obtain rfl := un4s_some hl
        intro hb50 w g args hI hr
        match args, hr with
        | [v0, v1], ⟨h0, h1, _⟩ =>
        have e0 : ∀ (fv : Value) (args : Array Value) w, (callFunc (ρ.f 6) args).run Try.prog w = .ok (.enter (ρ.f 6) args) w := fun _ => by
          have := Bears.enters L.f6 (rfl : (SlBodyF.n6 ρ).body = some _)
          exact this
        refine ⟨fun w' => ?_, ?_⟩
        · have := e0 v1 [v0, v1].toArray w'
          rw [hρ] at this; exact this
        have hv1 : ∃ a c, v1 = .func (.func 68) a c ∧ a = #[] ∧ c = #[] := by
          have h1' : RepP g.fz v1 (.fn 68 [] []) := h1
          cases h1' with | fn _ a c _ _ ha hc =>
          cases ha; cases hc
          exact ⟨#[], #[], rfl, rfl, rfl⟩
        obtain ⟨_, _, rfl, rfl, rfl⟩ := hv1
        have hms : RepMs g (inS [l.map r4]) v0 900 0 n 1 := h0.2.2 rfl
        have hat : inS [l.map r4] 900 = (0, some ((l.map r4).map .p)) := rfl
        have hlen : n = l.length := by simpa using hn.1
        have hroom : n ≤ 4294967296 := hn.2
        have none_ : ∀ (p : Option Addr) (cap : Nat), l = [] → v0 = .slice p 0 cap → Calls Try.prog (67 % 10000) [v0, .func (.func 68) #[] #[]].toArray w fun e w' => ∃ v, e = .returned v ∧ Abs.Ends w g [l.map r4] ⟨.p (.tup []), [(srt l).map r4], []⟩ v w' := by
          intro p cap hl0 hv0
          subst hl0; subst hv0
          have hc := AnyF.slices_SortFunc_none (P := Try.prog) (ρ := ρ) { L with } p cap (.func (.func 68) #[] #[]) w
          rw [hρ] at hc
          refine hc.mono fun e w' ⟨he, hw⟩ => ?_
          subst hw
          refine ⟨_, he, g, ?_, rfl, fun j b b' hb hb' => ?_, RepP.tup [] [] .nil⟩
          · rw [io_same _ _ (by simp)]; exact hI
          · cases j with
            | zero =>
              simp only [List.map_nil, srt, List.getElem?_cons_zero, Option.some.injEq] at hb hb'; subst hb; subst hb'
              exact ⟨rfl, rfl⟩
            | succ j => simp at hb
        rcases hms with ⟨p, hv0, hsp, hn0, _⟩ | ⟨p, cap, hp, hz, hv0, hcap, hC, hels⟩
        · refine none_ p 0 (List.eq_nil_of_length_eq_zero (by omega)) hv0
        · by_cases hl0 : l = []
          · exact none_ (some ⟨p.b, p.base + 0 * 1, none⟩) cap hl0 (by rw [hv0, hlen, hl0]; rfl)
          · obtain ⟨hown, hfree⟩ := hI.own 900 _ p (by rw [hat]) hp
            have hpos : 0 < l.length := List.length_pos_iff.2 hl0
            rcases hI.box 900 _ (by rw [hat]) with ⟨hx, _⟩ | ⟨q, hq, c, t, hb, hcs, hsz, hcells⟩
            · exact absurd (by simpa using hx) hl0
            rw [hp] at hq; cases hq
            have hwf : ∀ i, i < l.length → ∃ q : Row4 g.fz, c[p.base + i]? = some q.1.1 ∧ l[i]? = some q.1.2 := fun i hi => by
              obtain ⟨_, _, hcc⟩ := hcells i (.p (r4 l[i])) (by simp [hi])
              obtain ⟨v, k1, k2, k3⟩ := hcc 0 (.p (r4 l[i])) rfl
              rw [hz] at k1
              exact ⟨⟨(v, l[i]), k2, k3⟩, by simpa using k1, by simp [hi]⟩
            obtain ⟨q0, _, _⟩ := hwf 0 hpos
            haveI : Inhabited (Row4 g.fz) := ⟨q0⟩
            obtain ⟨d, hd, hdv⟩ : ∃ d : Array (Row4 g.fz), d.size = l.length ∧ ∀ i, i < l.length → c[p.base + i]? = some d[i]!.1.1 ∧ l[i]? = some d[i]!.1.2 := by
              refine ⟨Array.ofFn fun i : Fin l.length => (hwf i.1 i.2).choose, by simp, fun i hi => ?_⟩
              have hs := (hwf i hi).choose_spec
              have e : (Array.ofFn fun i : Fin l.length => (hwf i.1 i.2).choose)[i]! = (hwf i hi).choose := by
                rw [getElem!_pos _ i (by simpa using hi)]; simp only [Array.getElem_ofFn]
              rw [e]; exact hs
            have hH : Holds (fun q : Row4 g.fz => q.1.1) w p.b p.base d := fun j hj => by
              have := (hdv j (by omega)).1
              exact ⟨by simp [World.cell?, hb, this], by simp only [World.frozen?, hb]; exact Bool.and_eq_false_iff.2 (.inr (decide_eq_false (Nat.not_lt_zero _)))⟩
            have hbw : p.b < w.heap.size := (Array.getElem?_eq_some_iff.1 hb).1
            have hcmp : CmpLays1 Try.prog 68 #[] (fun q : Row4 g.fz => q.1.1) (cf4 g.fz) p.b p.base d.size w := fun m os dk hs x y => by
              refine cmp_any (fun b o v hv => ?_) x y
              have hne : b ≠ p.b := fun e => by rw [e, hfree o] at hv; cases hv
              have hc := hI.fzok b o v hv
              rw [cell_same (sw_other hne (cell_lt hc))]; exact hc
            have eg : ∀ args w, (callFunc 68 args).run Try.prog w = .ok (.enter 68 args) w := enters_of Try.func68 (by kernel_rfl) rfl
            have hc := Any.slices_SortFunc L (fun q : Row4 g.fz => q.1.1) (fun q => q.2.1) (cf4 g.fz) (swo4 g.fz) 68 #[] p.b p.base cap d w eg hcmp hH hbw (by rw [hd]; omega)
            rw [hρ, hd, ← hlen] at hc
            rw [show p.base + 0 * 1 = p.base by omega] at hv0
            rw [hv0]
            refine hc.mono fun e w' ⟨he, d', k, os, hperm, hsort, hw⟩ => ?_
            subst hw
            obtain ⟨hd's, hds⟩ := sorted_list hd (fun i hi => (hdv i hi).2) (by rw [hd, ← hlen]; exact hperm) (by rw [hd, ← hlen]; exact hsort)
            refine ⟨_, he, g, ⟨rfl, rfl, ⟨rfl, Nat.le_add_right _ _⟩, by rw [sw_size]; omega, fun b hb hS => sw_other (fun e => hS ⟨0, p, by simp, hp, e.symm⟩) hb, Fz.le_refl _, fun b o v hv => ?_, fun _ _ _ hv => .inl hv, fun k els hk => ?_, fun k els q hk hq => ?_, fun k k' els els' q q' hk hk' _ _ hne => ?_⟩, rfl, fun j b b' hb hb' => ?_, RepP.tup [] [] .nil⟩
            · have hne : b ≠ p.b := fun e => by rw [e, hfree o] at hv; cases hv
              have hc := hI.fzok b o v hv
              rw [cell_same (sw_other hne (cell_lt hc))]; exact hc
            · obtain ⟨rfl, rfl⟩ := outS_one hk
              refine .inr ⟨p, hp, _, t, sw_blk hb, by simpa [putCells] using hcs, by simpa [srt_len] using hsz, fun i el hel => ?_⟩
              have hi : i < l.length := by
                have := (List.getElem?_eq_some_iff.1 hel).1
                simpa [srt_len] using this
              have hel' : el = .p (r4 d'[i]!.1.2) := by
                simp only [List.getElem?_map, hds i hi, Option.map_some, Option.some.injEq] at hel
                exact hel.symm
              subst hel'
              refine ⟨rfl, hz.symm, fun j x hx => ?_⟩
              cases j with
              | succ j =>
                have hx' : [AV.p (r4 d'[i]!.1.2)][j + 1]? = some x := hx
                simp at hx'
              | zero =>
                obtain rfl : x = .p (r4 d'[i]!.1.2) := by
                  have hx' : some (AV.p (r4 d'[i]!.1.2)) = some x := hx
                  exact (Option.some.inj hx').symm
                have hlt : p.base + i < c.size := (Array.getElem?_eq_some_iff.1 (hdv i hi).1).1
                refine ⟨d'[i]!.1.1, ?_, d'[i]!.2.1, d'[i]!.2.2⟩
                rw [hz, show p.base + i * 1 + 0 = p.base + i by omega]
                simp only [putCells, Array.getElem?_mapIdx, (hdv i hi).1, Option.map_some]
                rw [if_pos ⟨by omega, by omega⟩, show p.base + i - p.base = i by omega]
            · obtain ⟨rfl, rfl⟩ := outS_one hk
              rw [hp] at hq; cases hq
              exact ⟨hown, hfree⟩
            · obtain ⟨rfl, _⟩ := outS_one hk
              obtain ⟨rfl, _⟩ := outS_one hk'
              exact absurd rfl hne
            · cases j with
              | zero =>
                simp only [List.getElem?_cons_zero, Option.some.injEq] at hb hb'; subst hb; subst hb'
                exact ⟨rfl, by simp [srt_len]⟩
              | succ j => simp at hb
      · cases h
    · cases h
  · cases h
/-! the shelf's laying, as its own command logs it -/
def lays6_ren : Go.Shelf.Ren := ⟨fun | 6 => 67 | 15 => 75 | 14 => 74 | 28 => 86 | 29 => 87 | 20 => 78 | 21 => 79 | 22 => 80 | 23 => 81 | 24 => 82 | 25 => 83 | 26 => 84 | 27 => 85 | 46 => 89 | 47 => 90 | 48 => 91 | 49 => 92 | 50 => 93 | 57 => 94 | n => n, fun | 22 => 78 | 24 => 65 | 25 => 86 | 3 => 3 | 39 => 96 | 0 => 0 | 53 => 107 | 55 => 109 | 4 => 4 | 46 => 100 | 45 => 99 | 50 => 104 | 5 => 5 | 9 => 9 | 66 => 110 | 70 => 114 | 76 => 116 | 77 => 117 | n => n, fun | n => n⟩
theorem lays6 : Go.Proofs.SlLaysF.n6 Try.prog lays6_ren where
  mixed := by kernel_rfl
  f6 := ⟨"slices.SortFunc[[][]int,[]int]", by decide, Try.func67.trans (congrArg some (by kernel_rfl))⟩
  f14 := ⟨"slices.pdqsortCmpFunc[[]int]", by decide, Try.func74.trans (congrArg some (by kernel_rfl))⟩
  f15 := Try.func75.trans (congrArg some (by kernel_rfl))
  f20 := ⟨"slices.insertionSortCmpFunc[[]int]", by decide, Try.func78.trans (congrArg some (by kernel_rfl))⟩
  f21 := ⟨"slices.heapSortCmpFunc[[]int]", by decide, Try.func79.trans (congrArg some (by kernel_rfl))⟩
  f22 := ⟨"slices.breakPatternsCmpFunc[[]int]", by decide, Try.func80.trans (congrArg some (by kernel_rfl))⟩
  f23 := ⟨"slices.choosePivotCmpFunc[[]int]", by decide, Try.func81.trans (congrArg some (by kernel_rfl))⟩
  f24 := ⟨"slices.reverseRangeCmpFunc[[]int]", by decide, Try.func82.trans (congrArg some (by kernel_rfl))⟩
  f25 := ⟨"slices.partialInsertionSortCmpFunc[[]int]", by decide, Try.func83.trans (congrArg some (by kernel_rfl))⟩
  f26 := ⟨"slices.partitionEqualCmpFunc[[]int]", by decide, Try.func84.trans (congrArg some (by kernel_rfl))⟩
  f27 := ⟨"slices.partitionCmpFunc[[]int]", by decide, Try.func85.trans (congrArg some (by kernel_rfl))⟩
  f28 := Try.func86.trans (congrArg some (by kernel_rfl))
  f29 := Try.func87.trans (congrArg some (by kernel_rfl))
  f46 := ⟨"slices.siftDownCmpFunc[[]int]", by decide, Try.func89.trans (congrArg some (by kernel_rfl))⟩
  f47 := Try.func90.trans (congrArg some (by kernel_rfl))
  f48 := Try.func91.trans (congrArg some (by kernel_rfl))
  f49 := ⟨"slices.medianAdjacentCmpFunc[[]int]", by decide, Try.func92.trans (congrArg some (by kernel_rfl))⟩
  f50 := ⟨"slices.medianCmpFunc[[]int]", by decide, Try.func93.trans (congrArg some (by kernel_rfl))⟩
  f57 := ⟨"slices.order2CmpFunc[[]int]", by decide, Try.func94.trans (congrArg some (by kernel_rfl))⟩
  t0 := Try.underlying0
  a0 := Try.isAgg0
  z0 := Try.sizeOf0
  v0 := Try.zeroValue0
  t3 := Try.underlying3
  a3 := Try.isAgg3
  z3 := Try.sizeOf3
  v3 := Try.zeroValue3
  t4 := Try.underlying4
  a4 := Try.isAgg4
  z4 := Try.sizeOf4
  v4 := Try.zeroValue4
  t5 := Try.underlying5
  a5 := Try.isAgg5
  z5 := Try.sizeOf5
  v5 := Try.zeroValue5
  t9 := Try.underlying9
  a9 := Try.isAgg9
  z9 := Try.sizeOf9
  v9 := Try.zeroValue9
  t22 := Try.underlying78
  a22 := Try.isAgg78
  z22 := Try.sizeOf78
  v22 := Try.zeroValue78
  a24 := Try.isAgg65
  z24 := Try.sizeOf65
  t25 := Try.underlying86
  a25 := Try.isAgg86
  z25 := Try.sizeOf86
  v25 := Try.zeroValue86
  t39 := Try.underlying96
  a39 := Try.isAgg96
  z39 := Try.sizeOf96
  v39 := Try.zeroValue96
  t45 := Try.underlying99
  a45 := Try.isAgg99
  z45 := Try.sizeOf99
  v45 := Try.zeroValue99
  t46 := Try.underlying100
  a46 := Try.isAgg100
  z46 := Try.sizeOf100
  v46 := Try.zeroValue100
  t50 := Try.underlying104
  a50 := Try.isAgg104
  z50 := Try.sizeOf104
  v50 := Try.zeroValue104
  t53 := Try.underlying107
  a53 := Try.isAgg107
  z53 := Try.sizeOf107
  v53 := Try.zeroValue107
  t55 := Try.underlying109
  a55 := Try.isAgg109
  z55 := Try.sizeOf109
  v55 := Try.zeroValue109
  t66 := Try.underlying110
  a66 := Try.isAgg110
  z66 := Try.sizeOf110
  v66 := Try.zeroValue110
  t70 := Try.underlying114
  a70 := Try.isAgg114
  z70 := Try.sizeOf114
  v70 := Try.zeroValue114
  t76 := Try.underlying116
  a76 := Try.isAgg116
  z76 := Try.sizeOf116
  v76 := Try.zeroValue116
  t77 := Try.underlying117
  a77 := Try.isAgg117
  z77 := Try.sizeOf117
  v77 := Try.zeroValue117
theorem ext_ok (f : FuncId) (vs : List AV) (bs : List (List PV)) (out : Out) (_ : E.fn f = none) (h : extT f vs bs = some out) : CallOk Try.prog f vs bs out := by
  by_cases hf : f = 67
  · subst hf; exact sort_ok lays6 rfl vs bs out h
  · unfold extT at h; rw [if_neg hf] at h; cases h
end Go.Proofs.Ytjlebmnlphjjoaa.Fx
