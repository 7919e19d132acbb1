-- Written by a program of this session (wip/auto.py): what the walks of this law's texts say over and over, once.
import Derived.Test.YtnnaiaiddjkjnaaDoorPFnJournalTextx0
import Derived.Test.YtnnaiaiddjkjnaaDoorWMore
namespace Go.Proofs.YtnnaiaiddjkjnaaDoor.PFnJournalText
open Go.RowKit Go.Proofs.YtnnaiaiddjkjnaaDoorW.PrintWords Go.Proofs.YtnnaiaiddjkjnaaDoorW.PrintLast Go.Proofs.YtnnaiaiddjkjnaaDoorW.PrintMore
set_option linter.unusedVariables false
theorem Az {p : Prop} (h : p) : Aside0 p := ⟨h⟩
theorem gf {p : Prop} (k : p := by (try simp only [List.map_toArray, List.map_cons, List.map_nil]); first | done | rfl | (simp only [List.length_drop, List.length_take]; rfl)) : p := k
theorem fa {p : Prop} (k : p := by first | (with_reducible assumption) | assumption) : p := k
theorem rt {p : Prop} (k : p := by first | rfl | (simp [errW_none, errW_some] <;> rfl) | (simp [*, errW_none, errW_some] <;> rfl)) : p := k
theorem mr {p : Prop} (k : p := by first | rfl | (simp; done) | (simp [*]; done)) : p := k
theorem dR {α : Type} {d : Kd α} {e : Nat} {w W : World} {base : Nat} {ok : Nat → Prop} {v : Value} {xs : List α} (h : Kd.R d e w base ok v xs) (k : Kd.R d e w base ok v xs → Kd.R d e W base ok v xs := by intro h_; (with_reducible repeat (first | apply Kd.R_alloc | apply Kd.R_drewN | apply Kd.R_drew)); exact h_) : Kd.R d e W base ok v xs := k h
theorem dQ {α : Type} {d : Kd α} {e : Nat} {w W : World} {base : Nat} {ok : Nat → Prop} {v : Value} {xs : List α} (h : Kd.Q d e w base ok v xs) (k : Kd.Q d e w base ok v xs → Kd.Q d e W base ok v xs := by intro h_; (with_reducible repeat (first | apply Kd.Q_alloc | apply Kd.Q_drewN | apply Kd.Q_drew)); exact h_) : Kd.Q d e W base ok v xs := k h
theorem dS {α : Type} {d : Kd α} {e : Nat} {w W : World} {base : Nat} {ok : Nat → Prop} {v : Value} {xs : List α} (h : Kd.S d e w base ok v xs) (k : Kd.S d e w base ok v xs → Kd.S d e W base ok v xs := by intro h_; (with_reducible repeat (first | apply Kd.S_alloc | apply Kd.S_drewN | apply Kd.S_drew)); exact h_) : Kd.S d e W base ok v xs := k h
theorem cA {w W : World} {g : Nat} {o : Obj} (_h : Aside0 (w.heap[g]? = some o)) (k : W.heap[g]? = some o := by (with_reducible repeat (first | refine blk_drewN ?_ _ | refine blk_drew ?_ | refine blk_alloc ?_ _)); first | (with_reducible exact Aside0.out (by assumption)) | exact Aside0.out (by assumption)) : W.heap[g]? = some o := k
theorem cB {a : Nat} {w w1 W : World} (_h : Aside0 (Below a w w1)) (k : Below a w W := by repeat (first | (with_reducible first | exact Aside0.out (by assumption) | apply below_alloc | apply pw_below_drewN | apply below_drew1 | refine below_set ?_ (Aside0.out (by assumption))) | exact Aside0.out (by assumption))) : Below a w W := k
theorem cK {w w1 W : World} {g : Nat} {r : Option Nat} (_h : Aside0 (KeepBut w w1 g r)) (k : KeepBut w W g r := by repeat (first | (with_reducible first | exact Aside0.out (by assumption) | apply KeepBut.set_ | apply keep_drewN | apply keep_drew | apply keep_alloc | refine keep_far ?_ (Aside0.out (by assumption)) _) | exact Aside0.out (by assumption))) : KeepBut w W g r := k
end Go.Proofs.YtnnaiaiddjkjnaaDoor.PFnJournalText
