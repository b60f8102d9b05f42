/- Short names for proofs that the print writes out often: the tactic is the last argument's own (autoParam), and runs where the name is used. -/
import Derived.Test.YtlefjgpkabijdaaGreatDoorV
namespace Go.Proofs.YtlefjgpkabijdaaGreatDoorZ
open Go.RowKit Go.Proofs.YtlefjgpkabijdaaGreatDoorW.PrintWords Go.Proofs.YtlefjgpkabijdaaGreatDoorW.PrintLast Go.Proofs.YtlefjgpkabijdaaGreatDoorW.PrintMore Go.Proofs.YtlefjgpkabijdaaGreatDoorV
theorem bz {P : Prop} (h : P := by repeat (first | (with_reducible first | exact HB.out | apply below_alloc | apply pw_below_drewN | apply below_drew1) | exact HB.out)) : P := h
theorem bs {P : Prop} (h : P := by repeat (first | (with_reducible first | exact HB.out | apply below_alloc | apply pw_below_drewN | apply below_drew1 | refine below_set ?_ (Aside0.out (by assumption))) | exact HB.out)) : P := h
theorem kz {P Q : Prop} (q : Q) (h : Q → P := by intro q_; (with_reducible repeat (first | refine blk_drewN ?_ _ | refine blk_drew ?_ | refine blk_alloc ?_ _)); exact q_) : P := h q
theorem rz {P Q : Prop} (q : Q) (h : Q → P := by intro q_; (with_reducible repeat (first | apply Kd.R_alloc | apply Kd.R_drewN | apply Kd.R_drew)); exact q_) : P := h q
theorem mz {P : Prop} (h : P := by (try simp only [List.map_toArray, List.map_cons, List.map_nil]); first | done | rfl | (simp only [List.length_drop, List.length_take]; rfl)) : P := h
theorem az {P : Prop} (h : P := by first | (with_reducible assumption) | assumption) : P := h
theorem fz {P : Prop} (h : P := by first | rfl | (simp; done) | (simp [*]; done)) : P := h
theorem cz {P Q : Prop} (q : Q) (h : Q → P := by intro q_; repeat (first | exact q_ | (with_reducible refine Kd.C_alloc ?_ _) | (with_reducible refine Kd.C_drewN ?_ _) | (with_reducible refine Kd.C_drew ?_))) : P := h q
theorem bd {α β : Type} {x : Option α} {f : α → Option β} {b : β} (h : x.bind f = some b) : ∃ a, Aside0 (x = some a) ∧ f a = some b := by
  obtain ⟨a, h1, h2⟩ := Option.bind_eq_some_iff.mp h
  exact ⟨a, ⟨h1⟩, h2⟩
theorem xa {α : Type} (l : List α) (i : Nat) (a : α) : l.toArray.setIfInBounds i a = (l.set i a).toArray := List.setIfInBounds_toArray ..
theorem xb {α : Type} (x : α) (xs : List α) (a : α) : (x :: xs).set 0 a = a :: xs := List.set_cons_zero ..
theorem xc {α : Type} (x : α) (xs : List α) (n : Nat) (a : α) : (x :: xs).set (n + 1) a = x :: xs.set n a := List.set_cons_succ ..
theorem kb {W0 W W1 : World} {g : Nat} {o : Obj} (q : W0.heap[g]? = some o) (hb : Below W.heap.size W W1) (h : W0.heap[g]? = some o → W.heap[g]? = some o := by intro q_; (with_reducible repeat (first | refine blk_drewN ?_ _ | refine blk_drew ?_ | refine blk_alloc ?_ _)); exact q_) : W1.heap[g]? = some o := blk_below (h q) hb
theorem kn {W0 W : World} {g b : Nat} {o : Obj} (hg : b = W.heap.size) (q : W0.heap[g]? = some o) (h : W0.heap[g]? = some o → W.heap[g]? = some o := by intro q_; (with_reducible repeat (first | refine blk_drewN ?_ _ | refine blk_drew ?_ | refine blk_alloc ?_ _)); exact q_) : g ≠ b := by rw [hg]; exact Nat.ne_of_lt (blk_lt (h q))
theorem km {W0 W : World} {g b : Nat} {o : Obj} (hg : b = W.heap.size) (q : W0.heap[g]? = some o) (h : W0.heap[g]? = some o → W.heap[g]? = some o := by intro q_; (with_reducible repeat (first | refine blk_drewN ?_ _ | refine blk_drew ?_ | refine blk_alloc ?_ _)); exact q_) : b ≠ g := by rw [hg]; exact Nat.ne_of_gt (blk_lt (h q))
end Go.Proofs.YtlefjgpkabijdaaGreatDoorZ
