-- Written by wip/mine.py (a program of this repo) for this claim.
import Derived.Test.YtbjmnneaflmgaaaMFnExactTreeParentx0
import Derived.Test.YtbjmnneaflmgaaaMFnExactTreeParentx1
import Derived.Test.YtbjmnneaflmgaaaMFnExactTreeParentx2
namespace Go.Proofs.Ytbjmnneaflmgaaa.MFnExactTreeParent
open Go.RowKit Go.Proofs.YtbjmnneaflmgaaaW.PrintWords Go.Proofs.YtbjmnneaflmgaaaW.PrintLast Go.Proofs.YtbjmnneaflmgaaaW.PrintMore Go.Proofs.YtbjmnneaflmgaaaV
attribute [local go_sem] max2_int min2_int max_two min_two max_three min_three max_four min_four   -- for this text's walks alone
set_option linter.unusedVariables false
set_option linter.unusedSimpArgs false


/-! ### spec_shPath: function 30 -/
section
open Go.Proofs.YtbjmnneaflmgaaaWT
def spec_shPath.l0 : Nat → Int → List (List Int) → List Int → Option (List Int)
  | 0, _, _, _ => none
  | k + 1, x, rows, alls => if (rows.all fun p => !p.isEmpty && decide (p.length ≤ 1000000)) = true ∧ rows.length ≤ 1000000 then (match rows.find? (fun p => wEnd p == x) with
    | some p => some p
    | none => (spec_shTree_grow.f k rows alls).bind fun b => spec_shPath.l0 k x b.1 b.2) else none
def spec_shPath.f (k : Nat) (x : Int) : Option (List Int) := spec_shPath.l0 k x [[1]] [1]
theorem spec_shPath.mono_l : ∀ k x rows alls, LeO (spec_shPath.l0 k x rows alls) (spec_shPath.l0 (k + 1) x rows alls)
  | 0, _, _, _ => fun r h => by cases h
  | k + 1, x, rows, alls => by
    rw [spec_shPath.l0, spec_shPath.l0]
    split
    · split
      · exact LeO.refl _
      · exact LeO.bind (spec_shTree_grow.mono _ _ _) (fun b => spec_shPath.mono_l k x b.1 b.2)
    · exact LeO.none _
theorem spec_shPath.mono : ∀ a0 k, LeO (spec_shPath.f k a0) (spec_shPath.f (k + 1) a0) := fun a0 k => spec_shPath.mono_l k a0 _ _
theorem spec_shPath.put2 {W : World} {b t : Nat} {x y : Value} (u v : Value) (h : W.heap[b]? = some (.cells #[x, y] t (0, 0))) : ((W.setCell ⟨b, 0, none⟩ u).setCell ⟨b, 1, none⟩ v).heap[b]? = some (.cells #[u, v] t (0, 0)) :=
  blk_put (cs := #[u, y]) (blk_put (cs := #[x, y]) h 0 u rfl) 1 v rfl
theorem spec_shPath.far2 {α : Type} {d : Kd α} {e base : Nat} {W : World} {b : Nat} {w0 : Value} {xs : List α} (u v : Value) (h : Kd.V d e W base (fun k => k ≠ b) w0 xs) : Kd.V d e ((W.setCell ⟨b, 0, none⟩ u).setCell ⟨b, 1, none⟩ v) base (fun k => k ≠ b) w0 xs :=
  Kd.V_far (p := ⟨b, 1, none⟩) (Kd.V_far (p := ⟨b, 0, none⟩) h (fun _ hk => hk) u) (fun _ hk => hk) v
theorem spec_shPath.elder {α : Type} {d : Kd α} {e base : Nat} {W w1 : World} {b : Nat} {w0 : Value} {ok : Nat → Prop} {xs : List α} (h : Kd.V d e W base ok w0 xs) (hb : b = W.heap.size) (hw : Below W.heap.size W w1) : Kd.V d e w1 base (fun k => k ≠ b) w0 xs :=
  Kd.V_mono (Kd.V_below (Kd.V_elderB h b (Nat.le_of_eq hb.symm)) hw) (fun _ hk => hk.2)
theorem spec_shPath.lastp (p : List Int) (h : p ≠ []) : wrap64 ((p.length : Int) - 1) = ((p.length : Int) - 1) ∧ 0 ≤ (p.length : Int) - 1 ∧ rd p ((p.length : Int) - 1) = wEnd p ∨ 1000000 < p.length := by
  by_cases c : 1000000 < p.length
  · exact .inr c
  · have hp := List.length_pos_iff.2 h
    refine .inl ⟨by unfold wrap64; omega, by omega, ?_⟩
    rw [show (p.length : Int) - 1 = ((p.length - 1 : Nat) : Int) by omega]
    unfold rd wEnd
    rw [Int.toNat_natCast, List.getLastD_eq_getLast?, List.getLast?_eq_getElem?, List.getD_eq_getElem?_getD]
set_option maxHeartbeats 2000000 in
set_option maxRecDepth 100000 in
theorem spec_shPath.calls (k : Nat) (x : Int) (r : List Int) (w : World) (h : spec_shPath.f k x = some r) :
    Calls Try.prog 30 #[.int .i64 x] w fun e w' => ∃ A c, e = .returned (.slice A r.length c) ∧ Kd.C (Kd.int .i64) w' A r.length r ∧ Below w.heap.size w w' := by
  have H0 := Aside0.mk (show spec_shPath.l0 k x [[1]] [1] = some r from h)
  clear h
  go_enter Try.func30, Try.ntmps30
  go_wp2_with (first
    | (go_at_call 51; refine (spec_shRoot.calls [[1]] [1] w rfl).mono ?_; rintro e w1 ⟨v0, v1, rfl, h0, h1, hb⟩; have V0 := Aside0.mk (Kd.V_mono (Kd.N_V (base' := 0) h0) (fun _ _ => trivial) : Kd.V (Kd.slice 3 (Kd.int .i64)) 22 w1 0 (fun _ => True) v0 [[1]]); have V1 := Aside0.mk (Kd.V_mono (Kd.R_V (base' := 0) h1) (fun _ _ => trivial) : Kd.V (Kd.int .i64) 3 w1 0 (fun _ => True) v1 [1]); have HB1 := Aside0.mk hb; clear h0 h1 hb; obtain ⟨A1, c1, e1⟩ := Kd.V_slice V0.out; replace e1 : v0 = .slice A1 1 c1 := e1; subst e1; obtain ⟨A2, c2, e2⟩ := Kd.V_slice V1.out; replace e2 : v1 = .slice A2 1 c2 := e2; subst e2)
    | ((with_reducible refine gate_dst (N := 3) rfl ?_); refine box_event ?hg (N := 3) ?hd (cs := #[.slice none 0 0, .slice none 0 0]) (t := 70) ?hr ?_; (case hd => rfl); (case hg => rfl); (case hr => first | (go_simp; done) | (go_simp; rfl)); intro b1 hg w2 hbox hb; have W0 := Aside0.mk (spec_shPath.elder V0.out hg hb); have W1 := Aside0.mk (spec_shPath.elder V1.out hg hb); have HB2 := Aside0.mk (below_step HB1.out hb); have GB := Aside0.mk (show w.heap.size ≤ b1 from by rw [hg]; exact HB1.out.size); have BK := Aside0.mk hbox; have hz0 := blk_cell hbox 0; have hz1 := blk_cell hbox 1; have hf0 := blk_frozen hbox 0; have hf1 := blk_frozen hbox 1; clear hbox hb hg))
  clear hz0 hz1 hf0 hf1
  go_loopg [3] k (fun kq s3 wr => ∃ (b : Nat) (A1 A2 : Option Addr) (c1 c2 n1 n2 : Nat) (rows : List (List Int)) (alls : List Int), Aside0 (spec_shPath.l0 kq x rows alls = some r ∧ w.heap.size ≤ b ∧ wr.heap[b]? = some (.cells #[.slice A1 n1 c1, .slice A2 n2 c2] 70 (0, 0)) ∧ Kd.V (Kd.slice 3 (Kd.int .i64)) 22 wr 0 (fun k => k ≠ b) (.slice A1 n1 c1) rows ∧ Kd.V (Kd.int .i64) 3 wr 0 (fun k => k ≠ b) (.slice A2 n2 c2) alls ∧ Below w.heap.size w wr) ∧ s3 = .pointer (some ⟨b, 0, none⟩))
  case atStart => exact ⟨b1, A1, A2, c1, c2, 1, 1, [[1]], [1], ⟨⟨H0.out, GB.out, spec_shPath.put2 _ _ BK.out, spec_shPath.far2 _ _ W0.out, spec_shPath.far2 _ _ W1.out, below_set (below_set HB2.out GB.out) GB.out⟩⟩, rfl⟩
  case round =>
    obtain ⟨W9, rfl⟩ : ∃ W9, W9 = wr := ⟨_, rfl⟩
    obtain ⟨b, A1, A2, c1, c2, n1, n2, rows, alls, HK, rfl⟩ := hrel
    obtain ⟨q1, q2, q3, q4, q5, q6⟩ := HK.out
    clear HK
    cases gk with
    | zero => cases q1
    | succ k1 =>
      rw [spec_shPath.l0] at q1
      by_cases hne : (rows.all fun p => !p.isEmpty && decide (p.length ≤ 1000000)) = true ∧ rows.length ≤ 1000000
      · rw [if_pos hne] at q1
        obtain ⟨en1, el1, hC1⟩ := Kd.V_reads' q4
        have NE := Aside0.mk hne.1
        have N1 := Aside0.mk (show n1 ≤ 1000000 from by have := hne.2; omega)
        have Q1 := Aside0.mk q1
        have Q2 := Aside0.mk q2
        have Q3 := Aside0.mk q3
        have Q4 := Aside0.mk q4
        have Q5 := Aside0.mk q5
        have Q6 := Aside0.mk q6
        have E1 := Aside0.mk en1
        have C1 := Aside0.mk hC1
        have hz0 := blk_cell q3 0
        have hz1 := blk_cell q3 1
        have hf0 := blk_frozen q3 0
        have hf1 := blk_frozen q3 1
        clear hne q1 q2 q3 q4 q5 q6 en1 hC1 el1
        go_wp2
        go_loopg [12] n1 (fun gg s12 wq => ∃ i : Nat, Aside0 (i ≤ n1 ∧ n1 - i ≤ gg ∧ (rows.drop i).find? (fun p => wEnd p == x) = rows.find? (fun p => wEnd p == x)) ∧ W9 = wq ∧ s12 = .int .i64 i)
        case atStart => exact ⟨0, ⟨⟨Nat.zero_le _, by omega, rfl⟩⟩, rfl, rfl⟩
        case round =>
          obtain ⟨i, HK, rfl, rfl⟩ := hrel
          obtain ⟨r1, r2, r3⟩ := HK.out
          clear HK
          by_cases hlt : i < n1
          · have hltz : (i : Int) < (n1 : Int) := by omega
            have hil : i < rows.length := by rw [← E1.out]; exact hlt
            have hcons : rows.drop i = rows[i] :: rows.drop (i + 1) := List.drop_eq_getElem_cons hil
            have hpne := List.all_eq_true.1 NE.out _ (List.getElem_mem hil)
            obtain ⟨ad, A, c, eA, hx, hl, hi⟩ := at_L1 C1.out (i : Int) (by omega) (by rw [← E1.out]; exact hltz)
            subst eA
            have hrow : rd_L1 rows (i : Int) = rows[i] := by unfold rd_L1; rw [Int.toNat_natCast]; simp [List.getD, hil]
            rw [Int.toNat_natCast, hrow] at hx
            rw [hrow] at hl hi
            obtain ⟨p, hp⟩ : ∃ p, rows[i] = p := ⟨_, rfl⟩
            rw [hp] at hcons hpne hx hl hi
            rw [Bool.and_eq_true] at hpne
            have hpl : p.length ≤ 1000000 := of_decide_eq_true hpne.2
            have hp0 : p ≠ [] := by rintro rfl; cases hpne.1
            rcases spec_shPath.lastp p hp0 with ⟨hw, j0, hend⟩ | hbig
            · have j1 : (p.length : Int) - 1 < (p.length : Int) := by omega
              obtain ⟨j, hj⟩ : ∃ j, (p.length : Int) - 1 = j := ⟨_, rfl⟩
              have hw2 : wrap64 ((p.length : Int) - 1) = j := by rw [hw, hj]
              rw [hj] at j0 hend j1
              clear hw
              obtain ⟨ad2, eA2, hx2⟩ := Kd.at_int hi j j0 j1
              subst eA2
              rw [hend] at hx2
              obtain ⟨z, hz⟩ : ∃ z, wEnd p = z := ⟨_, rfl⟩
              rw [hz] at hx2
              rw [hcons] at r3
              have HI := Aside0.mk hi
              by_cases hq : z = x
              · have hq2 : (z == x) = true := beq_iff_eq.mpr hq
                have hr := Q1.out
                rw [← r3, List.find?_cons_of_pos (by rw [hz]; exact hq2)] at hr
                have hr2 := Option.some.inj hr
                subst hr2
                have HQ := Aside0.mk hq2
                clear r1 r2 r3 hr hrow hcons hpne hpl hp0 hj hend hz hq hi hl hp hil
                go_wp2
                go_ret
                exact ⟨_, _, rfl, HI.out, Q6.out⟩
              · have hq2 : (z == x) = false := beq_eq_false_iff_ne.mpr hq
                have R3 := Aside0.mk (show (rows.drop (i + 1)).find? (fun p => wEnd p == x) = rows.find? (fun p => wEnd p == x) from by rw [← r3, List.find?_cons_of_neg (by rw [hz]; simp [hq])])
                have R2 := Aside0.mk r2
                have NB := Aside0.mk (show i < 1000000000 ∨ 1000000000 ≤ i from by omega)
                clear r1 r2 r3 hrow hcons hpne hpl hp0 hj hend hz hq hi hl hp hil
                go_wp2
                go_roundg (n1 - (i + 1))
                case measure => have := R2.out; omega
                case rel => exact ⟨i + 1, ⟨⟨by omega, by omega, R3.out⟩⟩, rfl, by rw [show wrap64 ((i : Int) + 1) = ((i + 1 : Nat) : Int) by have := N1.out; unfold wrap64; omega]⟩
            · omega
          · have hltz : ¬ (i : Int) < (n1 : Int) := by omega
            obtain rfl : i = n1 := by omega
            have hn : rows.find? (fun p => wEnd p == x) = none := by
              rw [← r3, List.drop_eq_nil_of_le (by rw [← E1.out]; exact Nat.le_refl _)]
              rfl
            have hr := Q1.out
            rw [hn] at hr
            obtain ⟨⟨t1, t2⟩, ht, hr2⟩ := Option.bind_eq_some_iff.1 hr
            have HT := Aside0.mk ht
            have HR2 := Aside0.mk hr2
            clear r1 r2 r3 hn hr ht hr2
            have e1 := E1.out
            subst e1
            obtain ⟨en2, el2, _⟩ := Kd.V_reads' Q5.out
            subst en2
            have EL1 := Aside0.mk (Kd.V_reads' Q4.out).2.1
            clear el2
            go_wp2_with (first
              | ((with_reducible refine gate_dst (N := 3) rfl ?_); refine box_event ?hg (N := 3) ?hd (cs := #[.slice none 0 0, .slice none 0 0]) (t := 70) ?hr ?_; (case hd => rfl); (case hg => rfl); (case hr => first | (go_simp; done) | (go_simp; rfl)); intro b2 hg w2 hbox hb; have V4 := Aside0.mk (spec_shPath.elder Q4.out hg hb); have V5 := Aside0.mk (spec_shPath.elder Q5.out hg hb); have HB2 := Aside0.mk (below_step Q6.out hb); have GB := Aside0.mk (show w.heap.size ≤ b2 from by rw [hg]; exact Q6.out.size); have BK := Aside0.mk (spec_shPath.put2 (.slice A1 rows.length c1) (.slice A2 alls.length c2) hbox); have hy0 := blk_cell hbox 0; have hy1 := blk_cell hbox 1; have hg0 := blk_frozen hbox 0; have hg1 := blk_frozen hbox 1; have hy2 := blk_cell BK.out 0; have hy3 := blk_cell BK.out 1; clear hbox hb hg)
              | (go_at_call 52; refine (spec_shTree_grow.calls k1 A1 c1 rows (fun j => j ≠ b2) A2 c2 alls t1 t2 _ (Kd.V_reads' (spec_shPath.far2 (.slice A1 rows.length c1) (.slice A2 alls.length c2) V4.out)).2.2 EL1.out (spec_shPath.far2 (.slice A1 rows.length c1) (.slice A2 alls.length c2) V5.out) HT.out).mono ?_; rintro e w3 ⟨v0, v1, rfl, h0, h1, hb⟩; have X0 := Aside0.mk (Kd.V_mono (Kd.N_V (base' := 0) h0) (fun j hj => by rcases hj with hj | hj; exact hj; (intro e; rw [e] at hj; have := World.block_lt_of_cell? _ _ hy2; simp at this; simp at hj; omega)) : Kd.V (Kd.slice 3 (Kd.int .i64)) 22 w3 0 (fun j => j ≠ b2) v0 t1); have X1 := Aside0.mk (Kd.V_mono (Kd.V_lower (base' := 0) h1 (Nat.zero_le _)) (fun j hj => by rcases hj.1 with hj | hj; exact hj; (intro e; rw [e] at hj; have := World.block_lt_of_cell? _ _ hy2; simp at this; simp at hj; omega)) : Kd.V (Kd.int .i64) 3 w3 0 (fun j => j ≠ b2) v1 t2); have BK3 := Aside0.mk (blk_below BK.out hb); have HB3 := Aside0.mk (below_step (below_set (below_set HB2.out GB.out) GB.out) hb); have hy4 := blk_cell BK3.out 0; have hy5 := blk_cell BK3.out 1; have hg4 := blk_frozen BK3.out 0; have hg5 := blk_frozen BK3.out 1; clear h0 h1 hb; obtain ⟨A3, c3, e3⟩ := Kd.V_slice X0.out; subst e3; obtain ⟨A4, c4, e4⟩ := Kd.V_slice X1.out; subst e4))
            go_roundg k1
            case measure => omega
            case rel => exact ⟨b2, _, _, _, _, _, _, t1, t2, ⟨⟨HR2.out, GB.out, spec_shPath.put2 _ _ BK3.out, spec_shPath.far2 _ _ X0.out, spec_shPath.far2 _ _ X1.out, below_set (below_set HB3.out GB.out) GB.out⟩⟩, rfl⟩
      · rw [if_neg hne] at q1; cases q1
end



/-! ### spec_TreeParent: function 12 -/
section
def spec_TreeParent.f (k : Nat) (n : Int) : Option (Int × Bool) := if 1 ≤ n ∧ n ≤ 100 then (if n = 1 then some (0, false) else (spec_shPath.f k n).bind fun p => if 2 ≤ p.length ∧ p.length ≤ 1000000 then some (rd p ((p.length : Int) - 2), true) else none) else some (0, false)
theorem spec_TreeParent.mono : ∀ a0 k, LeO (spec_TreeParent.f k a0) (spec_TreeParent.f (k + 1) a0) := by
  intro a0 k
  unfold spec_TreeParent.f
  refine LeO.ite (LeO.ite (LeO.refl _) (LeO.bind (spec_shPath.mono _ _) (fun _ => LeO.refl _))) (LeO.refl _)
set_option maxHeartbeats 1000000 in
set_option maxRecDepth 100000 in
theorem spec_TreeParent.calls (k : Nat) (a0 : Int) (r1 : Int) (r2 : Bool) (w : World) (h : spec_TreeParent.f k a0 = some (r1, r2)) :
    Calls Try.prog 12 #[.int .i64 a0] w fun e w' => e = .returned (.tuple #[.int .i64 r1, .bool r2]) ∧ Below w.heap.size w w' := by
  unfold spec_TreeParent.f at h
  by_cases hc : 1 ≤ a0 ∧ a0 ≤ 100
  · rw [if_pos hc] at h
    have HI := Aside0.mk (show spec_shNumber.f a0 = some true by unfold spec_shNumber.f spec_l1In.f; rw [if_pos hc.1]; simp [hc.2])
    by_cases h1 : a0 = 1
    · rw [if_pos h1] at h
      injection h with h
      injection h with e1 e2
      subst e1 e2 h1
      go_enter Try.func12, Try.ntmps12
      go_wp2_with (go_at_call 29; refine (spec_shNumber.calls 1 true _ HI.out).mono ?_; rintro e w1 ⟨rfl, ⟨nd, rfl⟩⟩)
      go_ret2
      exact ⟨rfl, pw_below_drewN (Below.refl _ _) nd⟩
    · rw [if_neg h1] at h
      obtain ⟨p, hp, h⟩ := Option.bind_eq_some_iff.1 h
      by_cases hl : 2 ≤ p.length ∧ p.length ≤ 1000000
      · rw [if_pos hl] at h
        injection h with h
        injection h with e1 e2
        subst e2
        have hne : (a0 == 1) = false := by simp [h1]
        have HP := Aside0.mk hp
        have HL := Aside0.mk hl
        have E1 := Aside0.mk e1
        clear hp hl hc h1 e1
        go_enter Try.func12, Try.ntmps12
        go_wp2_with (first
          | (go_at_call 29; refine (spec_shNumber.calls a0 true _ HI.out).mono ?_; rintro e w1 ⟨rfl, ⟨nd, rfl⟩⟩)
          | (go_at_call 30; refine (spec_shPath.calls k a0 p _ HP.out).mono ?_; rintro e w2 ⟨A, c, rfl, hC, hB⟩; obtain ⟨n, hn⟩ : ∃ n, p.length = n := ⟨_, rfl⟩; rw [hn] at hC; have hw : wrap64 ((n : Int) - 2) = (n : Int) - 2 := (by have := HL.out; unfold wrap64; omega); obtain ⟨ad, eA, hx⟩ := Kd.at_int hC ((n : Int) - 2) (by have := HL.out; omega) (by omega); subst eA; rw [hn]; obtain ⟨j, hj⟩ : ∃ j, (n : Int) - 2 = j := ⟨_, rfl⟩; rw [hj] at hw hx; have j0 : 0 ≤ j := (by have := HL.out; omega); have j1 : j < (n : Int) := (by omega); have HB := Aside0.mk hB; have E2 := Aside0.mk (show rd p j = r1 from by rw [← E1.out, hn, hj]); clear hC hB hn))
        go_ret2
        exact ⟨by rw [← E2.out]; rfl, below_step (pw_below_drewN (Below.refl _ _) nd) HB.out⟩
      · rw [if_neg hl] at h; cases h
  · rw [if_neg hc] at h
    injection h with h
    injection h with e1 e2
    subst e1 e2
    have hf : spec_shNumber.f a0 = some false := by
      unfold spec_shNumber.f spec_l1In.f
      by_cases c : a0 ≥ 1
      · rw [if_pos c]; simp; omega
      · rw [if_neg c]; rfl
    have HI := Aside0.mk hf
    clear hf
    go_enter Try.func12, Try.ntmps12
    go_wp2_with (go_at_call 29; refine (spec_shNumber.calls a0 false _ HI.out).mono ?_; rintro e w1 ⟨rfl, ⟨nd, rfl⟩⟩)
    go_ret2
    exact ⟨rfl, pw_below_drewN (Below.refl _ _) nd⟩
end



/-! ### slices_Clone_int_int: function 50 -/
def slices_Clone_int_int.f (l0 : List Int) : Option (List Int) := if l0.length < 17592186044416 then some l0 else none
set_option maxHeartbeats 8000000 in
set_option maxRecDepth 100000 in
theorem slices_Clone_int_int.calls (A0 : Option Addr) (c0 : Nat) (l0 : List Int) (r : List Int) (w : World) (hr0 : Kd.C (Kd.int .i64) w A0 l0.length l0) (hc0 : l0.length ≤ c0) (h : slices_Clone_int_int.f l0 = some r) :
    Calls Try.prog 50 #[.slice A0 l0.length c0] w fun e w' => ∃ v0_ : Value, e = .returned (v0_) ∧ Kd.R (Kd.int .i64) 3 w' w.heap.size (fun _ => True) v0_ r ∧ Below w.heap.size w w' := by
  have hlr : l0.length < 17592186044416 ∧ l0 = r := by
    unfold slices_Clone_int_int.f at h
    split at h
    · exact ⟨by assumption, Option.some.inj h⟩
    · cases h
  obtain ⟨hlt, rfl⟩ := hlr
  clear h
  cases A0 with
  | none =>
    have hl : l0 = [] := by
      by_cases hp : 0 < l0.length
      · obtain ⟨ad, e, _⟩ := hr0.2.2 hp
        cases e
      · exact List.eq_nil_of_length_eq_zero (by omega)
    subst hl
    have heq := fun (W : World) => Lib.run_eql_slice_nil (P := Try.prog) W 22 3 none 0 c0 0 0 Try.underlying22
    go_enter Try.func50, Try.ntmps50
    go_wp2
    go_ret
    exact ⟨_, rfl, Kd.R_nil _ _ _ _ _, Below.refl _ _⟩
  | some a0 =>
    have heq := fun (W : World) => Lib.run_eql_slice_nil (P := Try.prog) W 22 3 (some a0) l0.length c0 0 0 Try.underlying22
    have HR0 := Aside0.mk hr0
    have HC0 := Aside0.mk hc0
    have LM := Aside0.mk hlt
    clear hr0 hc0 hlt
    have HB := Aside0.mk (Below.refl w.heap.size w)
    go_enter Try.func50, Try.ntmps50
    go_wp2_with (first | ((with_reducible refine gate_dst (N := 5) rfl ?_); refine Kd.R_lit (Kd.int .i64) _ 3 ?hg (N := 5) ?hd (xs := ([] : List Int)) (inner := []) (ok := fun _ => True) (okp := fun _ => True) ?hr ?hp (fun _ hk => hk) trivial (Below.refl _ _) (Nat.le_refl _) (by simp) ?_; (case hd => rfl); (case hg => rfl); (case hr => first | (go_simp; done) | (go_simp; rfl)); (case hp => exact (Reps.none _ _)); intro v119 w3 ho4 hb hg_ hnew_; clear hg_ hnew_; have HO120 := Aside0.mk ho4; have HB1 := Aside0.mk hb; clear hb ho4) | ((with_reducible refine gate_builtin (b := .append) (xs := #[.tmp 5, .tmp 6]) rfl ?_); at_builtin; refine Kd.R_append_rows (Kd.int .i64) (w0 := w) w.heap.size rfl (.tmp 5) (.tmp 6) 22 3 (.int .i64 0) 8 rfl Try.underlying22 info3 rfl (by decide) (by omega) v119 [] l0 _ _ _ (fun _ => True) (fun _ => False) rfl rfl ?aO ?aR (fun _ _ h => h) (fun _ h => h.elim) ?aF ?aB ?aS ?aL ?_; (case aR => exact Kd.C_below HR0.out HB1.out); (case aB => exact HB1.out); (case aF => exact (fun _ _ => trivial)); (case aO => exact HO120.out); (case aS => exact HB1.out.size); (case aL => have := LM.out; simp only [List.length_nil]; omega); intro v122 w5 ho hb hg hat; rw [List.nil_append] at ho; have HO2 := Aside0.mk ho; have HB2 := Aside0.mk hb; clear ho hb hg hat))
    go_ret
    exact ⟨_, rfl, HO2.out, HB2.out⟩



/-! ### impl_treeWays: function 28 -/
section
open Go.Proofs.YtbjmnneaflmgaaaWT Go.Proofs.YtbjmnneaflmgaaaWM Go.Maps
theorem impl_treeWays.law : Keyed Try.prog 3 := int_keyed Try.underlying3
theorem impl_treeWays.zero (w : World) : (zeroValue 22).run Try.prog w = .ok (.slice none 0 0) w := by kernel_rfl
def impl_treeWays.KS : Kd (Option Addr × Nat × Nat) := Kd.scalar (fun s => Value.slice s.1 s.2.1 s.2.2) (fun _ => rfl)
theorem impl_treeWays.info22 : (Try.prog.info? 22).map (fun i => (i.zero, i.size, i.bytes)) = some (some (.slice none 0 0), 1, 24) := by kernel_rfl
theorem impl_treeWays.wf {x : Int} (h1 : -1000000 ≤ x) (h2 : x ≤ 1000000) : (Lit.int .i64 x).wf = true := WalkArith.wf_i64 (by omega)
theorem impl_treeWays.add {a b : Int} (h1 : 1 ≤ a) (h2 : a ≤ 1000) (h3 : 1 ≤ b) (h4 : b ≤ 1000) : wrap64 (a + b) = a + b := by unfold wrap64; omega
theorem impl_treeWays.inc {i n : Nat} (h : i < n) (hn : n ≤ 1000000) : wrap64 ((i : Int) + 1) = ((i + 1 : Nat) : Int) := by unfold wrap64; omega
theorem impl_treeWays.last {n l : Nat} (h : n = l + 1) (hn : n ≤ 1000000) : wrap64 ((n : Int) - 1) = (l : Int) := by unfold wrap64; omega
/-- What holds of the list at the head of the middle loop's round. -/
theorem impl_treeWays.atRow {B : Nat} (h1 : 1 ≤ B) (s i : Nat) (hi : i < ((wRun B s).drop s).length) : ∃ p, (wRun B (s + i))[s + i]? = some p ∧ rd (((wRun B s).drop s).map wEnd) (i : Int) = wEnd p ∧ p ≠ [] ∧ (∀ x ∈ p, 1 ≤ x ∧ x ≤ (B : Int)) ∧ wEnd p ≤ (B : Int) ∧ 1 ≤ wEnd p := by
  have hl : s + i < (wRun B s).length := by rw [List.length_drop] at hi; omega
  have hg : (wRun B s)[s + i]? = some ((wRun B s)[s + i]'hl) := List.getElem?_eq_getElem hl
  have hm := List.getElem_mem hl
  have ok := wRun_ok (show (1 : Int) ≤ B by omega) s
  have way := wRun_way (show (1 : Int) ≤ B by omega) s _ hm
  refine ⟨_, wRun_get B s i _ _ hg, ?_, ok.ne _ hm, fun x hx => ⟨ok.pos _ hm x hx, ?_⟩, ok.most _ hm, ok.pos _ hm _ (wEnd_mem (ok.ne _ hm))⟩
  · unfold rd
    rw [Int.toNat_natCast, List.getD_eq_getElem?_getD, List.getElem?_map, List.getElem?_drop, hg]
    rfl
  · have := way.top x hx
    have := ok.most _ hm
    omega
theorem impl_treeWays.fold_ok {B : Nat} (h1 : 1 ≤ B) (s : Nat) (p : List Int) (hp : (wRun B s)[s]? = some p) (j : Nat) : WOk B ((p.take j).foldl (wAdd B p) (wRun B s)) := by
  have ok := wRun_ok (show (1 : Int) ≤ B by omega) s
  have hm := List.mem_of_getElem? hp
  exact wFold_ok (ok.pos _ hm) (ok.ne _ hm) _ _ (fun x hx => ok.pos _ hm x (List.mem_of_mem_take hx)) ok
theorem impl_treeWays.fold_mem {B : Nat} (s : Nat) (p : List Int) (hp : (wRun B s)[s]? = some p) (j : Nat) : p ∈ (p.take j).foldl (wAdd B p) (wRun B s) := by
  obtain ⟨E, h⟩ := wFold_pre B p (p.take j) (wRun B s)
  rw [h]
  exact List.mem_append_left _ (List.mem_of_getElem? hp)
theorem impl_treeWays.fold_len {B : Nat} (h1 : 1 ≤ B) (s : Nat) (p : List Int) (hp : (wRun B s)[s]? = some p) (j : Nat) (hj : j ≤ p.length) : ((p.take j).foldl (wAdd B p) (wRun B s)).length ≤ B ∧ (wRun B s).length ≤ ((p.take j).foldl (wAdd B p) (wRun B s)).length := by
  refine ⟨?_, wFold_length _ _ _ _⟩
  have e : p.foldl (wAdd B p) (wRun B s) = (p.drop j).foldl (wAdd B p) ((p.take j).foldl (wAdd B p) (wRun B s)) := by rw [← List.foldl_append, List.take_append_drop]
  have := wFold_length B p (p.drop j) ((p.take j).foldl (wAdd B p) (wRun B s))
  rw [← e, ← wRun_step hp] at this
  exact Nat.le_trans this (wRun_len h1 (s + 1))
set_option maxHeartbeats 4000000 in
set_option maxRecDepth 100000 in
theorem impl_treeWays.calls (B : Nat) (h1 : 1 ≤ B) (h2 : B ≤ 1000) (w : World) :
    Calls Try.prog 28 #[.int .i64 (B : Int)] w fun e w' => ∃ (M : Nat) (v5 : Value), e = .returned (.tuple #[.map (some M), v5]) ∧ w.heap.size ≤ M ∧ Ways Try.prog 3 3 w' M (fun _ => True) (wAll B) ∧ Below w.heap.size w w' := by
  have hmm := @run_makeMap Try.prog
  have HN := Aside0.mk (And.intro h1 h2)
  have HW0 := Aside0.mk (Ways.made (P := Try.prog) (k := 3) (ti := 3) w (fun _ => True))
  have HB0 := Aside0.mk (below_alloc (Below.refl w.heap.size w) (.map #[] 0))
  clear h1 h2
  go_enter Try.func28, Try.ntmps28
  go_wp2_with (first
    | ((with_reducible refine gate_dst (N := 13) rfl ?_); refine Kd.R_lit (Kd.int .i64) _ 3 ?hg (N := 13) ?hd (xs := ([1] : List Int)) (inner := [.int .i64 1]) (ok := fun _ => True) (okp := fun _ => True) ?hr ?hp (fun _ hk => hk) trivial (Below.refl _ _) (Nat.le_refl _) (by simp) ?_; (case hd => rfl); (case hg => rfl); (case hr => first | (go_simp; done) | (go_simp; rfl)); (case hp => exact (Reps.one (show Kd.M (Kd.int .i64) _ _ _ 1 [.int .i64 1] from rfl) (Reps.none _ _))); intro v13 w1 ho hb hg hn; have HO13 := Aside0.mk ho; have HB1 := Aside0.mk (below_step HB0.out hb); have HW1 := Aside0.mk (HW0.out.grown hg (by simp) (by simp)); clear ho hb hg hn)
    | ((with_reducible refine gate_insert (t := 44) rfl ?_); obtain ⟨w2, hrun, hw, hg⟩ := HW1.out.store impl_treeWays.law Try.underlying3 (E := 22) Try.underlying44 (v := v13) (q := [1]) (m := 1) rfl rfl (impl_treeWays.wf (by omega) (by omega)) (by have := HO13.out; simpa using this) (by unfold maxLen; simp); refine wp_insert_run rfl _ _ _ 44 rfl (mv := .map (some w.heap.size)) (key := .int .i64 1) (u := v13) rfl rfl rfl hrun ?_; have HW2 := Aside0.mk hw; have HB2 := Aside0.mk (pw_below_grown HB1.out (some w.heap.size) HB1.out.size hg (by rintro k ⟨⟩; exact Nat.le_refl _)); clear hrun hw hg)
    | ((with_reducible refine gate_dst (N := 15) rfl ?_); refine Kd.R_lit (Kd.int .i64) _ 3 ?hg (N := 15) ?hd (xs := ([1] : List Int)) (inner := [.int .i64 1]) (ok := fun _ => True) (okp := fun _ => True) ?hr ?hp (fun _ hk => hk) trivial (Below.refl _ _) (Nat.le_refl _) (by simp) ?_; (case hd => rfl); (case hg => rfl); (case hr => first | (go_simp; done) | (go_simp; rfl)); (case hp => exact (Reps.one (show Kd.M (Kd.int .i64) _ _ _ 1 [.int .i64 1] from rfl) (Reps.none _ _))); intro v15 w3 ho hb hg hn; have HO15 := Aside0.mk (Kd.R_lower ho HB2.out.size); have HB3 := Aside0.mk (below_step HB2.out hb); have HW3 := Aside0.mk (HW2.out.below hb); clear ho hb hg hn; obtain ⟨A15, c15, e15⟩ := Kd.R_slice HO15.out; replace e15 : v15 = .slice A15 1 c15 := e15; subst e15)
    | ((with_reducible refine gate_dst (N := 16) rfl ?_); refine Kd.R_lit impl_treeWays.KS _ 22 ?hg (N := 16) ?hd (xs := [(A15, 1, c15)]) (inner := [.slice A15 1 c15]) (ok := fun _ => True) (okp := fun _ => True) ?hr ?hp (fun _ hk => hk) trivial (Below.refl _ _) (Nat.le_refl _) (by simp) ?_; (case hd => rfl); (case hg => rfl); (case hr => first | (go_simp; done) | (go_simp; rfl)); (case hp => exact (Reps.one (show Kd.M impl_treeWays.KS _ _ _ (A15, 1, c15) [.slice A15 1 c15] from rfl) (Reps.none _ _))); intro v16 w4 ho hb hg hn; have HO16 := Aside0.mk (Kd.R_lower ho HB3.out.size); have HB4 := Aside0.mk (below_step HB3.out hb); have HW4 := Aside0.mk (HW3.out.below hb); have HO15b := Aside0.mk (Kd.R_below HO15.out hb); clear ho hb hg hn))
  go_loopg [5] B (fun gg s5 wr => ∃ (s : Nat) (L : List (Option Addr × Nat × Nat)) (A : Option Addr) (c : Nat) (v5 : Value), Aside0 (s < (wRun B s).length ∧ B - s ≤ gg ∧ Below w.heap.size w wr ∧ Kd.R impl_treeWays.KS 22 wr w.heap.size (fun _ => True) v5 (L ++ [(A, ((wRun B s).drop s).length, c)]) ∧ Kd.R (Kd.int .i64) 3 wr w.heap.size (fun _ => True) (.slice A ((wRun B s).drop s).length c) (((wRun B s).drop s).map wEnd) ∧ Ways Try.prog 3 3 wr w.heap.size (fun _ => True) (wRun B s) ∧ L.length ≤ s) ∧ s5 = v5)
  case atStart => exact ⟨0, [], A15, c15, v16, ⟨⟨Nat.zero_lt_one, by omega, HB4.out, HO16.out, HO15b.out, HW4.out, Nat.le_refl _⟩⟩, rfl⟩
  case round =>
    obtain ⟨W0, rfl⟩ : ∃ W0, W0 = wr := ⟨_, rfl⟩
    obtain ⟨s, L, A, c, v5, HK, rfl⟩ := hrel
    obtain ⟨q1, q2, q3, q4, q5, q6, q7⟩ := HK.out
    clear HK
    obtain ⟨h1, h2⟩ := HN.out
    obtain ⟨A5, c5, e5⟩ := Kd.R_slice q4
    obtain ⟨n5, hn5⟩ : ∃ n5, (L ++ [(A, ((wRun B s).drop s).length, c)]).length = n5 := ⟨_, rfl⟩
    rw [hn5] at e5
    subst e5
    obtain ⟨-, -, hC5⟩ := Kd.R_reads' q4
    rw [hn5] at hC5
    have hn5' : n5 = L.length + 1 := by rw [← hn5, List.length_append]; rfl
    have hsB : s < B := Nat.lt_of_lt_of_le q1 (wRun_len h1 s)
    have hl5 := impl_treeWays.last hn5' (by omega)
    obtain ⟨ad5, eA5, hx⟩ := ReadsOf.at_ (Kd.reads_of_C (enc := fun s : Option Addr × Nat × Nat => Value.slice s.1 s.2.1 s.2.2) (d := (none, 0, 0)) (h1 := fun _ => rfl) hC5) (L.length : Int) (by omega) (by omega)
    subst eA5
    have hel : rdOf (none, 0, 0) (L ++ [(A, ((wRun B s).drop s).length, c)]) (L.length : Int) = (A, ((wRun B s).drop s).length, c) := by unfold rdOf; rw [Int.toNat_natCast, List.getD_eq_getElem?_getD, List.getElem?_append_right (Nat.le_refl _), Nat.sub_self]; rfl
    rw [hel, ← hl5] at hx
    obtain ⟨n, hn⟩ : ∃ n, ((wRun B s).drop s).length = n := ⟨_, rfl⟩
    rw [hn] at hx q4 q5
    have hnl : n = (wRun B s).length - s := by rw [← hn, List.length_drop]
    have hnB : s + n ≤ B := by have := wRun_len h1 s; omega
    have g0 : (0 : Int) ≤ wrap64 ((n5 : Int) - 1) := by omega
    have g1 : wrap64 ((n5 : Int) - 1) < (n5 : Int) := by omega
    have hxl : (((wRun B s).drop s).map wEnd).length = n := by rw [List.length_map, hn]
    have Q1 := Aside0.mk q1
    have Q2 := Aside0.mk q2
    have Q3 := Aside0.mk q3
    have Q4 := Aside0.mk q4
    have Q5 := Aside0.mk q5
    have Q6 := Aside0.mk q6
    have Q7 := Aside0.mk q7
    have HX := Aside0.mk hx
    have N5 := Aside0.mk hn5'
    have NL := Aside0.mk hnl
    have NB := Aside0.mk hnB
    have ND := Aside0.mk hn
    have XL := Aside0.mk hxl
    have SB := Aside0.mk hsB
    clear q1 q2 q3 q4 q5 q6 q7 hn5 hC5 hn5' hl5 hel hn hnl hnB hxl hsB h1 h2
    go_wp2_with ((with_reducible refine gate_dst (N := 17) rfl ?_); refine Kd.R_lit (Kd.int .i64) _ 3 ?hg (N := 17) ?hd (xs := ([] : List Int)) (inner := []) (ok := fun _ => True) (okp := fun _ => True) ?hr ?hp (fun _ hk => hk) trivial (Below.refl _ _) (Nat.le_refl _) (by simp) ?_; (case hd => rfl); (case hg => rfl); (case hr => first | (go_simp; done) | (go_simp; rfl)); (case hp => exact (Reps.none _ _)); intro v17 w1 ho hb hg hn; have HO17 := Aside0.mk ho; have HB17 := Aside0.mk hb; have hx1 := pw_cell_below hb HX.out; clear ho hb hg hn)
    clear hx hx1
    go_loopg [6, 25] n (fun gg s6 s25 wq => ∃ (i : Nat) (v6 : Value), Aside0 (i ≤ n ∧ n - i ≤ gg ∧ Kept W0 wq (fun j => j = w.heap.size) ∧ Below w.heap.size w wq ∧ Kd.R (Kd.int .i64) 3 wq W0.heap.size (fun _ => True) v6 (((wRun B (s + i)).drop (s + n)).map wEnd) ∧ Ways Try.prog 3 3 wq w.heap.size (fun j => some j ≠ v6.ownBlock) (wRun B (s + i))) ∧ v6 = s6 ∧ s25 = .int .i64 i)
    case atStart =>
      refine ⟨0, v17, ⟨⟨Nat.zero_le _, by omega, Kept.of_below HB17.out _, below_step Q3.out HB17.out, ?_, ?_⟩⟩, rfl, rfl⟩
      · have : (wRun B (s + 0)).drop (s + n) = [] := List.drop_eq_nil_of_le (by have := NL.out; have := Q1.out; rw [Nat.add_zero]; omega)
        rw [this]
        exact HO17.out
      · refine Ways.reno (((Q6.out.reno (ok' := fun j => j < W0.heap.size) (fun j _ _ h => h)).below HB17.out)) (fun j hj _ _ e => ?_)
        have := Kd.R_base HO17.out j e.symm
        omega
    case round =>
      obtain ⟨W1, rfl⟩ : ∃ W1, W1 = wr := ⟨_, rfl⟩
      obtain ⟨i, v6, HK, rfl, rfl⟩ := hrel
      obtain ⟨r1, r2, r3, r4, r5, r6⟩ := HK.out
      clear HK
      by_cases hlt : i < n
      · have hltz : (i : Int) < (n : Int) := by omega
        obtain ⟨h1, h2⟩ := HN.out
        obtain ⟨p, hp, hrd, hpne, hpb, hm1, hm2⟩ := impl_treeWays.atRow h1 s i (by rw [ND.out]; exact hlt)
        obtain ⟨ad, eA, hc⟩ := Kd.at_int (Kd.R_reads' Q5.out).2.2 (i : Int) (by omega) (by rw [XL.out]; exact hltz)
        subst eA
        rw [hrd, Int.toNat_natCast] at hc
        have hcq := cell_kept hc r3 (Q6.out.cell_ne hc)
        obtain ⟨v31, hrun31, hR31, hv31⟩ := r6.look impl_treeWays.law Try.underlying3 Try.underlying44 (impl_treeWays.zero W1) (wRun_ok (show (1 : Int) ≤ B by omega) _).one (wRun_ok (show (1 : Int) ≤ B by omega) _).ne (wEnd p) (impl_treeWays.wf (by omega) (by omega))
        have eto : wTo (wRun B (s + i)) (wEnd p) = p := wTo_of1 (wRun_ok (show (1 : Int) ≤ B by omega) _).one (List.mem_of_getElem? hp)
        rcases hv31 with ⟨hs, _⟩ | ⟨_, a31, c31, e31⟩
        · have := (wSeen_iff _ _).2 ⟨p, List.mem_of_getElem? hp, rfl⟩
          rw [hs] at this
          cases this
        rw [eto] at hR31 e31
        subst e31
        obtain ⟨m, hm⟩ : ∃ m, wEnd p = m := ⟨_, rfl⟩
        rw [hm] at hrun31 hcq hm1 hm2
        obtain ⟨np, hnp⟩ : ∃ np, p.length = np := ⟨_, rfl⟩
        rw [hnp] at hrun31 hR31
        have HP := Aside0.mk hp
        have PB := Aside0.mk hpb
        have PN := Aside0.mk hpne
        have HM := Aside0.mk hm
        have NP := Aside0.mk hnp
        have M1 := Aside0.mk hm1
        have M2 := Aside0.mk hm2
        have R2 := Aside0.mk r2
        have R3 := Aside0.mk r3
        have R4 := Aside0.mk r4
        have R5 := Aside0.mk r5
        have R6 := Aside0.mk r6
        have R31 := Aside0.mk hR31
        have NPB := Aside0.mk (show np ≤ 1000 from by
          rw [← hnp]
          have ok := wRun_ok (show (1 : Int) ≤ B by omega) (s + i)
          have := wRun_up (show (1 : Int) ≤ B by omega) (s + i) p (List.mem_of_getElem? hp)
          have := nodup_le B p (this.imp (fun h e => by omega)) (fun x hx => hpb x hx)
          omega)
        clear hp hpb hpne hm hnp hm1 hm2 r2 r3 r4 r5 r6 hR31 hrd hc eto h1 h2
        go_wp2_with ((with_reducible refine gate_dst (N := 31) rfl ?_); refine wp_lookup_run rfl _ _ 44 rfl (mv := .map (some w.heap.size)) (key := .int .i64 m) (v := .slice (some a31) np c31) rfl rfl hrun31 ?_)
        clear hrun31 hcq
        go_loopg [6, 33] np (fun gg s6 s33 wx => ∃ (j : Nat) (v6 : Value), Aside0 (j ≤ np ∧ np - j ≤ gg ∧ Kept W0 wx (fun j => j = w.heap.size) ∧ Below w.heap.size w wx ∧ Kd.R (Kd.int .i64) 3 wx W0.heap.size (fun _ => True) v6 ((((p.take j).foldl (wAdd B p) (wRun B (s + i))).drop (s + n)).map wEnd) ∧ Ways Try.prog 3 3 wx w.heap.size (fun j => some j ≠ v6.ownBlock) ((p.take j).foldl (wAdd B p) (wRun B (s + i))) ∧ Kd.R (Kd.int .i64) 3 wx (w.heap.size + 1) (fun j => some j ≠ v6.ownBlock) (.slice (some a31) np c31) p) ∧ v6 = s6 ∧ s33 = .int .i64 j)
        case atStart => exact ⟨0, v6, ⟨⟨Nat.zero_le _, by omega, R3.out, R4.out, R5.out, R6.out, R31.out⟩⟩, rfl, rfl⟩
        case round =>
          obtain ⟨W2, rfl⟩ : ∃ W2, W2 = wr := ⟨_, rfl⟩
          obtain ⟨j, v6, HK, rfl, rfl⟩ := hrel
          obtain ⟨t1, t2, t3, t4, t5, t6, t7⟩ := HK.out
          clear HK R3 R4 R5 R6 R31
          by_cases hjt : j < np
          · have hjtz : (j : Int) < (np : Int) := by omega
            obtain ⟨h1, h2⟩ := HN.out
            obtain ⟨ad2, e2, hc2⟩ := Kd.at_int (Kd.R_reads' t7).2.2 (j : Int) (by omega) (by rw [NP.out]; exact hjtz)
            cases e2
            rw [Int.toNat_natCast] at hc2
            have hjp : j < p.length := by rw [NP.out]; exact hjt
            have erd : rd p (j : Int) = p[j]'hjp := by unfold rd; rw [Int.toNat_natCast]; simp [List.getD, hjp]
            obtain ⟨b1, b2⟩ := PB.out _ (List.getElem_mem hjp)
            have hfold := wFold_take B p (wRun B (s + i)) j hjp
            rw [← erd] at b1 b2 hfold
            obtain ⟨a, ha⟩ : ∃ a, rd p (j : Int) = a := ⟨_, rfl⟩
            rw [ha] at hc2 b1 b2 hfold
            have hxx := impl_treeWays.add (a := m) (b := a) M2.out (by have := M1.out; omega) b1 (by omega)
            obtain ⟨x, hx⟩ : ∃ x, m + a = x := ⟨_, rfl⟩
            have hadd : wrap64 (m + a) = x := by rw [hxx, hx]
            have okD := impl_treeWays.fold_ok h1 (s + i) p HP.out j
            have pD := impl_treeWays.fold_mem (s + i) p HP.out j
            obtain ⟨lD, lD2⟩ := impl_treeWays.fold_len h1 (s + i) p HP.out j (by rw [NP.out]; exact t1)
            obtain ⟨D, hD⟩ : ∃ D, (p.take j).foldl (wAdd B p) (wRun B (s + i)) = D := ⟨_, rfl⟩
            rw [hD] at t5 t6 hfold okD pD lD lD2
            have hsn : s + n ≤ D.length := by
              obtain ⟨E, hE⟩ := wRun_pre B s i
              rw [hE, List.length_append] at lD2
              have := NL.out
              have := Q1.out
              omega
            have hstep : wAdd B p D a = if x ≤ B ∧ wSeen D x = false then D ++ [p ++ [x]] else D := by unfold wAdd; rw [HM.out, hx]
            have hdrop := wAdd_drop B p D a (s + n) hsn
            rw [HM.out, hx] at hdrop
            have hinc := impl_treeWays.inc hjt (by have := NPB.out; omega)
            have hxr : 1 ≤ x ∧ x ≤ 2000 := by have := M1.out; have := M2.out; omega
            have T2 := Aside0.mk t2
            have T3 := Aside0.mk t3
            have T4 := Aside0.mk t4
            have T5 := Aside0.mk t5
            have T7 := Aside0.mk t7
            have HF := Aside0.mk hfold
            have HS := Aside0.mk hstep
            have HD := Aside0.mk hdrop
            have HI := Aside0.mk hinc
            have OK := Aside0.mk okD
            have PD := Aside0.mk pD
            have LD := Aside0.mk lD
            have XR := Aside0.mk hxr
            have HX2 := Aside0.mk hx
            by_cases hxB : x ≤ (B : Int)
            · have hd : decide (x ≤ (B : Int)) = true := decide_eq_true hxB
              obtain ⟨v46, hrun46, _, hv46⟩ := t6.look impl_treeWays.law Try.underlying3 Try.underlying44 (impl_treeWays.zero W2) okD.one okD.ne x (impl_treeWays.wf (by omega) (by omega))
              have T6 := Aside0.mk t6
              rcases hv46 with ⟨hs, rfl⟩ | ⟨hs, a46, c46, rfl⟩
              · have heq := fun (W : World) => Lib.run_eql_slice_nil (P := Try.prog) W 22 3 none 0 0 0 0 Try.underlying22
                have hyes : x ≤ (B : Int) ∧ wSeen D x = false := ⟨hxB, hs⟩
                have HY := Aside0.mk hyes
                obtain ⟨v53, hrun53, hR53, hv53⟩ := t6.look impl_treeWays.law Try.underlying3 Try.underlying44 (impl_treeWays.zero W2) okD.one okD.ne m (impl_treeWays.wf (by omega) (by omega))
                have eto : wTo D m = p := by rw [← HM.out]; exact wTo_of1 okD.one pD
                rcases hv53 with ⟨hs2, _⟩ | ⟨_, a53, c53, rfl⟩
                · have := (wSeen_iff D m).2 ⟨p, pD, HM.out⟩
                  rw [hs2] at this
                  cases this
                rw [eto] at hrun53 hR53
                have R53 := Aside0.mk hR53
                have FF := Aside0.mk (show slices_Clone_int_int.f p = some p by unfold slices_Clone_int_int.f; rw [if_pos (by have := NP.out; have := NPB.out; omega)])
                have ND2 := Aside0.mk (show ¬ ∃ k, v6.ownBlock = some k ∧ k < W0.heap.size from by rintro ⟨k, hk, hlt⟩; have := Kd.R_base T5.out k hk; omega)
                have MB := Aside0.mk (show w.heap.size < W0.heap.size from Q6.out.lt)
                have NX := Aside0.mk (show (((D.drop (s + n)).map wEnd).length + 1) * 8 ≤ 140737488355328 from by rw [List.length_map, List.length_drop]; have := LD.out; omega)
                have PL := Aside0.mk (show (p.length + 1) * 8 ≤ 140737488355328 from by have := NP.out; have := NPB.out; omega)
                clear hyes hs eto hR53 t2 t3 t4 t5 t6 t7 hfold hstep hdrop hinc okD pD lD lD2 hxr hx hxx hsn b1 b2 erd ha hD h1 h2 hjp hxB
                go_wp2_with (first
                  | ((with_reducible refine gate_dst (N := 46) rfl ?_); refine gate_guard (by rfl) ?_; refine wp_lookup_run rfl _ _ 44 rfl (mv := .map (some w.heap.size)) (key := .int .i64 x) rfl rfl hrun46 ?_)
                  | ((with_reducible refine gate_dst (N := 53) rfl ?_); refine wp_lookup_run rfl _ _ 44 rfl (mv := .map (some w.heap.size)) (key := .int .i64 m) rfl rfl hrun53 ?_)
                  | (go_at_call 50; refine (slices_Clone_int_int.calls (some a53) c53 p p W2 (Kd.R_reads' R53.out).2.2 (Kd.R_reads' R53.out).2.1 FF.out).mono ?_; rintro e W3 ⟨v54, rfl, ho, hb⟩; have HO54 := Aside0.mk ho; have HB54 := Aside0.mk hb; clear ho hb)
                  | ((with_reducible refine gate_builtin (b := .append) (xs := #[.tmp 54, .tmp 56]) rfl ?_); at_builtin; refine Kd.R_append (Kd.int .i64) (w0 := W2) W2.heap.size rfl (.tmp 54) (.tmp 56) 22 3 (.int .i64 0) 8 rfl Try.underlying22 info3 rfl (by decide) (by omega) v54 p x [.int .i64 x] (fun _ => True) (fun _ => False) rfl rfl rfl (fun _ h => h.elim) (fun _ _ => trivial) HO54.out HB54.out HB54.out.size PL.out ?_; intro v57 W4 ho hb hg hat; have HO57 := Aside0.mk ho; have HB57 := Aside0.mk hb; clear ho hb hg hat)
                  | ((with_reducible refine gate_update (t := 44) rfl ?_); obtain ⟨W5, hru, hwu, hgu⟩ := (T6.out.below HB57.out).store impl_treeWays.law Try.underlying3 Try.underlying44 (v := v57) (q := p ++ [x]) (m := x) (wEnd_snoc p x) HY.out.2 (impl_treeWays.wf (by have := XR.out; omega) (by have := XR.out; omega)) (Kd.R_lower (Kd.R_mono (Kd.R_bound HO57.out) (fun k hk e => by have := hk.2.1; have := Kd.R_lt T5.out k e.symm; omega)) (show w.heap.size + 1 ≤ W2.heap.size from by have := MB.out; have := T3.out.1; omega)) (by have := LD.out; have := HN.out.2; unfold maxLen; omega); refine wp_store_run rfl _ _ _ 44 rfl (mv := .map (some w.heap.size)) (key := .int .i64 x) (u := v57) rfl rfl rfl hru ?_; have HW5 := Aside0.mk hwu; have HG5 := Aside0.mk hgu; clear hru hwu hgu)
                  | ((with_reducible refine gate_builtin (b := .append) (xs := #[.tmp 58, .tmp 60]) rfl ?_); at_builtin; refine Kd.R_append (Kd.int .i64) (w0 := W5) W0.heap.size rfl (.tmp 58) (.tmp 60) 22 3 (.int .i64 0) 8 rfl Try.underlying22 info3 rfl (by decide) (by omega) v6 ((D.drop (s + n)).map wEnd) x [.int .i64 x] (fun _ => True) (fun _ => False) rfl rfl rfl (fun _ h => h.elim) (fun _ _ => trivial) ?hR6 (Below.refl _ _) ?hS6 NX.out ?_; (case hR6 => exact Kd.R_mono (Kd.R_grown (Kd.R_bound (Kd.R_below T5.out HB57.out)) HG5.out (fun k hk e => by have := hk.2.1; have := MB.out; cases e; omega)) (fun _ hk => hk.1)); (case hS6 => have := T3.out.1; have := HB57.out.size; have := HG5.out.size; omega); intro v61 W6 ho hb hg hat; have HO61 := Aside0.mk ho; have HB61 := Aside0.mk hb; have HG61 := Aside0.mk hg; have HAT := Aside0.mk hat; clear ho hb hg hat))
                go_roundg (np - (j + 1))
                case measure => have := T2.out; omega
                case rel =>
                  refine ⟨j + 1, v61, ⟨⟨by omega, by omega, ?_, ?_, ?_, ?_, ?_⟩⟩, rfl, by rw [HI.out]⟩
                  · exact Kept.of_grown HG61.out (Kept.of_grown HG5.out (T3.out.below HB57.out) (fun k e => by cases e; exact .inl rfl)) (fun k e => .inr (Kd.R_base T5.out k e))
                  · exact pw_below_grown (pw_below_grown (T4.out.trans (HB57.out.mono T4.out.size)) (some w.heap.size) (Nat.le_trans T4.out.size HB57.out.size) HG5.out (by rintro k ⟨⟩; exact Nat.le_refl _)) v6.ownBlock (Nat.le_trans (Nat.le_trans T4.out.size HB57.out.size) HG5.out.size) HG61.out (fun k e => by have := Kd.R_base T5.out k e; have := MB.out; omega)
                  · rw [HF.out, HD.out, if_pos HY.out]; exact HO61.out
                  · rw [HF.out, HS.out, if_pos HY.out]
                    refine ((HW5.out.reno (ok' := fun k => some k ≠ v6.ownBlock ∧ k < W5.heap.size) (fun k h _ h2 => ⟨h, h2⟩)).grown HG61.out (fun e => by have := Kd.R_base T5.out _ e.symm; have := MB.out; omega) (fun k hk => hk.1)).reno (fun k hk _ _ e => ?_)
                    rcases HAT.out with h | ⟨b, h, hb⟩
                    · exact hk.1 (by rw [← h]; exact e)
                    · rw [h] at e; cases e; have := hk.2; omega
                  · have q1 := Kd.R_bound (Kd.R_below T7.out HB57.out)
                    have q2 := Kd.R_grown q1 HG5.out (fun k hk e => by have := hk.2.1; cases e; omega)
                    have q3 := Kd.R_grown (Kd.R_bound q2) HG61.out (fun k hk => hk.1.1)
                    refine Kd.R_mono q3 (fun k hk e => ?_)
                    rcases HAT.out with h | ⟨b, h, hb⟩
                    · exact hk.1.1 (by rw [← h]; exact e)
                    · rw [h] at e; cases e; have := hk.2.2.1; omega
              · have heq := fun (W : World) => Lib.run_eql_slice_nil (P := Try.prog) W 22 3 (some a46) (wTo D x).length c46 0 0 Try.underlying22
                have hno : ¬ (x ≤ (B : Int) ∧ wSeen D x = false) := fun h => by rw [hs] at h; cases h.2
                have HO := Aside0.mk hno
                clear hno hs t2 t3 t4 t5 t6 t7 hfold hstep hdrop hinc okD pD lD lD2 hxr hx hxx hsn b1 b2 erd ha hD h1 h2 hjp hxB
                go_wp2_with ((with_reducible refine gate_dst (N := 46) rfl ?_); refine gate_guard (by rfl) ?_; refine wp_lookup_run rfl _ _ 44 rfl (mv := .map (some w.heap.size)) (key := .int .i64 x) rfl rfl hrun46 ?_)
                go_roundg (np - (j + 1))
                case measure => have := T2.out; omega
                case rel => exact ⟨j + 1, v6, ⟨⟨by omega, by omega, T3.out, T4.out, by rw [HF.out, HS.out, if_neg HO.out]; exact T5.out, by rw [HF.out, HS.out, if_neg HO.out]; exact T6.out, T7.out⟩⟩, rfl, by rw [HI.out]⟩
            · have hd : decide (x ≤ (B : Int)) = false := decide_eq_false hxB
              have hno : ¬ (x ≤ (B : Int) ∧ wSeen D x = false) := fun h => hxB h.1
              have HO := Aside0.mk hno
              have T6 := Aside0.mk t6
              clear hno t2 t3 t4 t5 t6 t7 hfold hstep hdrop hinc okD pD lD lD2 hxr hx hxx hsn b1 b2 erd ha hD h1 h2 hjp hxB
              go_wp2
              go_roundg (np - (j + 1))
              case measure => have := T2.out; omega
              case rel => exact ⟨j + 1, v6, ⟨⟨by omega, by omega, T3.out, T4.out, by rw [HF.out, HS.out, if_neg HO.out]; exact T5.out, by rw [HF.out, HS.out, if_neg HO.out]; exact T6.out, T7.out⟩⟩, rfl, by rw [HI.out]⟩
          · have hjtz : ¬ (j : Int) < (np : Int) := by omega
            obtain rfl : j = np := by omega
            have eD : (p.take j).foldl (wAdd B p) (wRun B (s + i)) = wRun B (s + (i + 1)) := by
              rw [List.take_of_length_le (by rw [NP.out]; exact Nat.le_refl _), ← Nat.add_assoc, wRun_step HP.out]
            rw [eD] at t5 t6
            have T3 := Aside0.mk t3
            have T4 := Aside0.mk t4
            have T5 := Aside0.mk t5
            have T6 := Aside0.mk t6
            clear t2 t3 t4 t5 t6 t7 eD
            go_wp2
            go_roundg (n - (i + 1))
            case measure => have := R2.out; omega
            case rel => exact ⟨i + 1, v6, ⟨⟨by omega, by omega, T3.out, T4.out, T5.out, T6.out⟩⟩, rfl, by rw [impl_treeWays.inc hlt (by have := NB.out; have := HN.out.2; omega)]⟩
      · have hltz : ¬ (i : Int) < (n : Int) := by omega
        obtain rfl : i = n := by omega
        obtain ⟨h1, h2⟩ := HN.out
        by_cases hz : (((wRun B (s + i)).drop (s + i)).map wEnd) = []
        · have hstop : (wRun B (s + i)).length ≤ s + i := by
            have := List.map_eq_nil_iff.1 hz
            exact List.drop_eq_nil_iff.1 this
          have eW := wAll_of_stop h1 hstop
          rw [hz] at r5
          obtain ⟨A6, c6, e6⟩ := Kd.R_slice r5
          replace e6 : v6 = .slice A6 0 c6 := e6
          subst e6
          rw [eW] at r6
          have R4 := Aside0.mk r4
          have R6 := Aside0.mk r6
          clear r1 r2 r3 r4 r5 r6 hz hstop eW h1 h2
          go_wp2
          go_ret2
          exact ⟨_, ⟨_, rfl⟩, Nat.le_refl _, R6.out.reno (fun _ _ _ _ => trivial), R4.out⟩
        · obtain ⟨n6, hn6⟩ : ∃ n6, (((wRun B (s + i)).drop (s + i)).map wEnd).length = n6 := ⟨_, rfl⟩
          have hn6p : 0 < n6 := by rw [← hn6]; exact List.length_pos_iff.2 hz
          have hlen6 : ((wRun B (s + i)).drop (s + i)).length = n6 := by rw [← hn6, List.length_map]
          have hmore : s + i < (wRun B (s + i)).length := by rw [List.length_drop] at hlen6; omega
          obtain ⟨A6, c6, e6⟩ := Kd.R_slice r5
          rw [hn6] at e6
          subst e6
          have hdec : ((n6 : Int) == 0) = false := by simp; omega
          have hipos : 0 < i := by have := NL.out; have := Q1.out; omega
          have R2 := Aside0.mk r2
          have R3 := Aside0.mk r3
          have R4 := Aside0.mk r4
          have R5 := Aside0.mk r5
          have R6 := Aside0.mk r6
          have N6 := Aside0.mk hn6
          have N6p := Aside0.mk hn6p
          have L6 := Aside0.mk hlen6
          have MO := Aside0.mk hmore
          have IP := Aside0.mk hipos
          have S5 := Aside0.mk (Kd.R_mono (Kd.R_kept (Q6.out.row_ne Q4.out) r3 (fun k hk => hk.2)) (fun _ hk => hk.1))
          clear r2 r3 r4 r5 r6 hn6 hn6p hlen6 hmore hz hipos h1 h2
          go_wp2_with ((with_reducible refine gate_builtin (b := .append) (xs := #[.tmp 69, .tmp 71]) rfl ?_); at_builtin; refine Kd.R_append impl_treeWays.KS (w0 := W1) w.heap.size rfl (.tmp 69) (.tmp 71) 45 22 (.slice none 0 0) 24 rfl Try.underlying45 impl_treeWays.info22 rfl (by decide) (by omega) _ (L ++ [(A, i, c)]) (A6, n6, c6) [.slice A6 n6 c6] (fun _ => True) (fun _ => False) rfl rfl rfl (fun _ h => h.elim) (fun _ _ => trivial) S5.out (Below.refl _ _) R4.out.size (by have := Q7.out; have := SB.out; have := HN.out.2; rw [List.length_append]; simp only [List.length_cons, List.length_nil]; omega) ?_; intro v7 w7 ho hb hg hat; have HO7 := Aside0.mk ho; have HB7 := Aside0.mk hb; have HG7 := Aside0.mk hg; clear ho hb hg hat)
          go_roundg (B - (s + i))
          case measure => have := Q2.out; have := IP.out; have := SB.out; omega
          case rel =>
            have ed : ((wRun B (s + i)).drop (s + i)).length = n6 := L6.out
            refine ⟨s + i, L ++ [(A, i, c)], A6, c6, v7, ⟨⟨MO.out, Nat.le_refl _, R4.out.trans HB7.out, ?_, ?_, ?_, ?_⟩⟩, rfl⟩
            · rw [ed]; exact HO7.out
            · rw [ed]
              exact Kd.R_lower (Kd.R_mono (Kd.R_grown (Kd.R_bound R5.out) HG7.out (fun k hk e => by have := hk.2.1; have := Kd.R_lt Q4.out k e.symm; omega)) (fun _ hk => hk.1)) Q3.out.size
            · obtain ⟨inner, ho⟩ := Kd.R_own S5.out
              exact (R6.out.grown_row HG7.out (fun j hj => own_typed ho j hj) (by decide)).reno (fun _ _ _ _ => trivial)
            · have := Q7.out; have := IP.out; rw [List.length_append]; simp only [List.length_cons, List.length_nil]; omega
end


/-! ### impl_in: function 27 -/
def impl_in.f (a0 : Int) (a1 : Int) (a2 : Int) : Option (Bool) := if a0 ≥ a1 then (some (decide (a0 ≤ a2))) else (some false)
set_option maxHeartbeats 8000000 in
set_option maxRecDepth 100000 in
theorem impl_in.calls (a0 : Int) (a1 : Int) (a2 : Int) (r : Bool) (w : World) (h : impl_in.f a0 a1 a2 = some r) :
    Calls Try.prog 27 #[.int .i64 a0, .int .i64 a1, .int .i64 a2] w fun e w' => e = .returned (.bool r) ∧ Drawn0 w w' := by
  have H : (if a0 ≥ a1 then (some (decide (a0 ≤ a2))) else (some false)) = some r := h
  clear h
  by_cases c4 : a0 ≥ a1
  · rw [if_pos c4] at H
    have c4b0 : decide (a1 ≤ a0) = true := decide_eq_true c4
    clear c4
    obtain rfl := Option.some.inj H
    go_enter Try.func27, Try.ntmps27
    go_wp2
    go_ret
    exact ⟨by first | rfl | (simp; done) | (simp [*]; done), by repeat (first | exact Drawn0.refl _ | apply Drawn0.step)⟩
  · rw [if_neg c4] at H
    have c4b0 : decide (a1 ≤ a0) = false := decide_eq_false c4
    clear c4
    obtain rfl := Option.some.inj H
    go_enter Try.func27, Try.ntmps27
    go_wp2
    go_ret
    exact ⟨by first | rfl | (simp; done) | (simp [*]; done), by repeat (first | exact Drawn0.refl _ | apply Drawn0.step)⟩

/-! ### impl_isShort: function 53 -/
def impl_isShort.f (a0 : Int) : Option (Bool) := (impl_in.f a0 1 100).bind fun t144 => (some t144)
set_option maxHeartbeats 8000000 in
set_option maxRecDepth 100000 in
theorem impl_isShort.calls (a0 : Int) (r : Bool) (w : World) (h : impl_isShort.f a0 = some r) :
    Calls Try.prog 53 #[.int .i64 a0] w fun e w' => e = .returned (.bool r) ∧ Drawn0 w w' := by
  have H : ((impl_in.f a0 1 100).bind fun t144 => (some t144)) = some r := h
  clear h
  replace H := Option.bind_eq_some_iff.mp H
  obtain ⟨t144, A20, H⟩ := H
  replace H : (some t144) = some r := H
  have A2 := Aside0.mk A20
  clear A20
  obtain rfl := Option.some.inj H
  go_enter Try.func53, Try.ntmps53
  go_wp2_with (first | ((with_reducible refine gate_callee (f := 27) rfl ?_); refine goesL_ (some 4) rfl rfl Try.func27 (by kernel_rfl) rfl #[.int .i64 a0, .int .i64 1, .int .i64 100] rfl (by (try simp only [List.map_toArray, List.map_cons, List.map_nil]); first | done | rfl | (simp only [List.length_drop, List.length_take]; rfl)) ?_; (with_reducible refine (impl_in.calls a0 1 100 t144 _ A2.out).mono ?_); rintro e w' ⟨rfl, ⟨nd, rfl⟩⟩; refine ⟨_, rfl, ?_⟩))
  go_ret
  exact ⟨by first | rfl | (simp; done) | (simp [*]; done), by repeat (first | exact Drawn0.refl _ | apply Drawn0.step)⟩


/-! ### impl_TreePath: function 31 -/
section
open Go.Proofs.YtbjmnneaflmgaaaWT Go.Proofs.YtbjmnneaflmgaaaWM Go.Maps
def impl_TreePath.f (n : Int) : Option (List Int × Bool) := some (if 1 ≤ n ∧ n ≤ 100 then (wTo (wAll 256) n, true) else ([], false))
set_option maxHeartbeats 1000000 in
set_option maxRecDepth 100000 in
theorem impl_TreePath.calls (a0 : Int) (r1 : List Int) (r2 : Bool) (w : World) (h : impl_TreePath.f a0 = some (r1, r2)) :
    Calls Try.prog 31 #[.int .i64 a0] w fun e w' => ∃ v0_ : Value, e = .returned (.tuple #[v0_, .bool r2]) ∧ Kd.R (Kd.int .i64) 3 w' w.heap.size (fun _ => True) v0_ r1 ∧ Below w.heap.size w w' := by
  by_cases hc : 1 ≤ a0 ∧ a0 ≤ 100
  · have e : (wTo (wAll 256) a0, true) = (r1, r2) := by
      have h' : some (if 1 ≤ a0 ∧ a0 ≤ 100 then (wTo (wAll 256) a0, true) else ([], false)) = some (r1, r2) := h
      rw [if_pos hc] at h'
      exact Option.some.inj h'
    injection e with e1 e2
    subst e2
    have HE := Aside0.mk e1
    have HI := Aside0.mk (show impl_isShort.f a0 = some true by unfold impl_isShort.f impl_in.f; rw [if_pos hc.1]; simp [hc.2])
    have HC := Aside0.mk hc
    clear h e1 hc
    go_enter Try.func31, Try.ntmps31
    go_wp2_with (first
      | (go_at_call 53; refine (impl_isShort.calls a0 true _ HI.out).mono ?_; rintro e w1 ⟨rfl, ⟨nd, rfl⟩⟩)
      | (go_at_call 28; refine (impl_treeWays.calls 256 (by omega) (by omega) _).mono ?_; rintro e w2 ⟨M, v5, rfl, hM, hW, hB⟩; obtain ⟨v15, hrun, hR, _⟩ := hW.look impl_treeWays.law Try.underlying3 Try.underlying44 (impl_treeWays.zero w2) (wRun_ok (B := 256) (by omega) _).one (wRun_ok (B := 256) (by omega) _).ne a0 (impl_treeWays.wf (by have := HC.out; omega) (by have := HC.out; omega)); have HR := Aside0.mk (Kd.R_lower hR (Nat.le_succ_of_le hM)); have HB := Aside0.mk hB; clear hM hW hB hR)
      | ((with_reducible refine gate_dst (N := 15) rfl ?_); refine wp_lookup_run rfl _ _ 44 rfl rfl rfl hrun ?_))
    go_ret2
    exact ⟨_, rfl, by rw [← HE.out]; exact HR.out, below_step (pw_below_drewN (Below.refl _ _) nd) HB.out⟩
  · have e : (([] : List Int), false) = (r1, r2) := by
      have h' : some (if 1 ≤ a0 ∧ a0 ≤ 100 then (wTo (wAll 256) a0, true) else ([], false)) = some (r1, r2) := h
      rw [if_neg hc] at h'
      exact Option.some.inj h'
    injection e with e1 e2
    subst e1 e2
    have HI := Aside0.mk (show impl_isShort.f a0 = some false by unfold impl_isShort.f impl_in.f; split <;> simp <;> omega)
    clear h hc
    go_enter Try.func31, Try.ntmps31
    go_wp2_with (go_at_call 53; refine (impl_isShort.calls a0 false _ HI.out).mono ?_; rintro e w1 ⟨rfl, ⟨nd, rfl⟩⟩)
    go_ret2
    exact ⟨_, rfl, Kd.R_nil _ _ _ _ _, pw_below_drewN (Below.refl _ _) nd⟩
end


/-! ### impl_TreeParent: function 13 -/
def impl_TreeParent.f (a0 : Int) : Option (Int × Bool) := (impl_TreePath.f a0).bind fun bt145 => (if bt145.2 = true then (if a0 = 1 then (some (0, false)) else (if 0 ≤ (wrap64 ((bt145.1.length : Int) - 2)) then (if (wrap64 ((bt145.1.length : Int) - 2)) < (bt145.1.length : Int) then (some (rd bt145.1 (wrap64 ((bt145.1.length : Int) - 2)), true)) else (none)) else (none))) else (some (0, false)))
set_option maxHeartbeats 8000000 in
set_option maxRecDepth 100000 in
theorem impl_TreeParent.calls (a0 : Int) (r1 : Int) (r2 : Bool) (w : World) (h : impl_TreeParent.f a0 = some (r1, r2)) :
    Calls Try.prog 13 #[.int .i64 a0] w fun e w' => e = .returned (.tuple #[.int .i64 r1, .bool r2]) ∧ Below w.heap.size w w' := by
  have HB := Aside0.mk (Below.refl w.heap.size w)
  have H : ((impl_TreePath.f a0).bind fun bt145 => (if bt145.2 = true then (if a0 = 1 then (some (0, false)) else (if 0 ≤ (wrap64 ((bt145.1.length : Int) - 2)) then (if (wrap64 ((bt145.1.length : Int) - 2)) < (bt145.1.length : Int) then (some (rd bt145.1 (wrap64 ((bt145.1.length : Int) - 2)), true)) else (none)) else (none))) else (some (0, false)))) = some (r1, r2) := h
  clear h
  replace H := Option.bind_eq_some_iff.mp H
  obtain ⟨⟨t145, t146⟩, A20, H⟩ := H
  replace H : (if t146 = true then (if a0 = 1 then (some (0, false)) else (if 0 ≤ (wrap64 ((t145.length : Int) - 2)) then (if (wrap64 ((t145.length : Int) - 2)) < (t145.length : Int) then (some (rd t145 (wrap64 ((t145.length : Int) - 2)), true)) else (none)) else (none))) else (some (0, false))) = some (r1, r2) := H
  have A2 := Aside0.mk A20
  clear A20
  by_cases c3 : t146 = true
  · subst c3
    have H1 : (if a0 = 1 then (some (0, false)) else (if 0 ≤ (wrap64 ((t145.length : Int) - 2)) then (if (wrap64 ((t145.length : Int) - 2)) < (t145.length : Int) then (some (rd t145 (wrap64 ((t145.length : Int) - 2)), true)) else (none)) else (none))) = some (r1, r2) := by rw [if_pos rfl] at H; exact H
    clear H
    have H := H1
    clear H1
    by_cases c4 : a0 = 1
    · rw [if_pos c4] at H
      have c4b0 : (a0 == 1) = true := beq_iff_eq.mpr c4
      have c4b1 : (a0 != 1) = false := bne_eq_false_iff_eq.mpr c4
      clear c4
      simp only [Option.some.injEq, Prod.mk.injEq] at H
      obtain ⟨rfl, rfl⟩ := H
      go_enter Try.func13, Try.ntmps13
      go_wp2_with (first | ((with_reducible refine gate_callee (f := 31) rfl ?_); refine goesL_ (some 8) rfl rfl Try.func31 (by kernel_rfl) rfl #[.int .i64 a0] rfl (by (try simp only [List.map_toArray, List.map_cons, List.map_nil]); first | done | rfl | (simp only [List.length_drop, List.length_take]; rfl)) ?_; (with_reducible refine (impl_TreePath.calls a0 t145 true _ A2.out).mono ?_); rintro e w5 ⟨v147, rfl, ho0, hb⟩; refine ⟨_, rfl, ?_⟩; have n0_ := Aside0.mk (Kd.R_lower ho0 (below_size (by repeat (first | (with_reducible first | exact HB.out | apply below_alloc | apply pw_below_drewN | apply below_drew1) | exact HB.out)))); have n1_ := Aside0.mk (below_step (by repeat (first | (with_reducible first | exact HB.out | apply below_alloc | apply pw_below_drewN | apply below_drew1) | exact HB.out)) hb); clear HB; have HO148 := n0_; have HB := n1_; clear n0_ n1_; (try clear hb); (try clear ho0)))
      go_ret2
      exact ⟨by first | rfl | (simp [errW_none, errW_some] <;> rfl) | (simp [*, errW_none, errW_some] <;> rfl), by repeat (first | (with_reducible first | exact HB.out | apply below_alloc | apply pw_below_drewN | apply below_drew1) | exact HB.out)⟩
    · rw [if_neg c4] at H
      have c4b0 : (a0 == 1) = false := beq_eq_false_iff_ne.mpr c4
      have c4b1 : (a0 != 1) = true := bne_iff_ne.mpr c4
      obtain ⟨ji6, hji6⟩ : ∃ j_ : Int, (wrap64 ((t145.length : Int) - 2)) = j_ := ⟨_, rfl⟩
      replace H : (if 0 ≤ (ji6) then (if (ji6) < (t145.length : Int) then (some (rd t145 (ji6), true)) else (none)) else (none)) = some (r1, r2) := by first | (rw [hji6] at H; exact H) | (simp only [hji6] at H ⊢; exact H)
      (try rw [hji6] at A2)
      have hji6w : (IntKind.i64.wrap ((t145.length : Int) - 2)) = ji6 := (i64_w _).trans hji6
      by_cases c7 : 0 ≤ (ji6)
      · rw [if_pos c7] at H
        have c7b0 : decide (0 ≤ (ji6)) = true := decide_eq_true c7
        clear c7
        by_cases c8 : (ji6) < (t145.length : Int)
        · rw [if_pos c8] at H
          have c8b0 : decide ((ji6) < (t145.length : Int)) = true := decide_eq_true c8
          clear c8
          simp only [Option.some.injEq, Prod.mk.injEq] at H
          obtain ⟨rfl, rfl⟩ := H
          go_enter Try.func13, Try.ntmps13
          go_wp2_with (first | ((with_reducible refine gate_callee (f := 31) rfl ?_); refine goesL_ (some 8) rfl rfl Try.func31 (by kernel_rfl) rfl #[.int .i64 a0] rfl (by (try simp only [List.map_toArray, List.map_cons, List.map_nil]); first | done | rfl | (simp only [List.length_drop, List.length_take]; rfl)) ?_; (with_reducible refine (impl_TreePath.calls a0 t145 true _ A2.out).mono ?_); rintro e w9 ⟨v147, rfl, ho0, hb⟩; refine ⟨_, rfl, ?_⟩; have n0_ := Aside0.mk (Kd.R_lower ho0 (below_size (by repeat (first | (with_reducible first | exact HB.out | apply below_alloc | apply pw_below_drewN | apply below_drew1) | exact HB.out)))); have n1_ := Aside0.mk (below_step (by repeat (first | (with_reducible first | exact HB.out | apply below_alloc | apply pw_below_drewN | apply below_drew1) | exact HB.out)) hb); clear HB; have HO148 := n0_; have HB := n1_; clear n0_ n1_; (try clear hb); (try clear ho0); obtain ⟨Ao10, co10, eo10⟩ := Kd.R_slice HO148.out; subst eo10; have p149 : 0 ≤ ((ji6) : Int) := of_decide_eq_true (by first | (with_reducible assumption) | assumption); have q149 : (ji6) < (t145.length : Int) := of_decide_eq_true (by first | (with_reducible assumption) | assumption); obtain ⟨ad149, e149, hx149_0⟩ := Kd.at_int (Kd.R_reads' HO148.out).2.2 (ji6) p149 q149; cases e149; replace p149 := eq_true p149; replace q149 := eq_true q149))
          go_ret2
          exact ⟨by first | rfl | (simp [errW_none, errW_some] <;> rfl) | (simp only [← hji6]; first | rfl | (simp [errW_none, errW_some] <;> rfl)) | (simp [*, errW_none, errW_some] <;> rfl), by repeat (first | (with_reducible first | exact HB.out | apply below_alloc | apply pw_below_drewN | apply below_drew1) | exact HB.out)⟩
        · rw [if_neg c8] at H
          exact absurd H (by simp)
      · rw [if_neg c7] at H
        exact absurd H (by simp)
  · replace c3 := Bool.eq_false_iff.mpr c3
    subst c3
    have H1 : (some (0, false)) = some (r1, r2) := by rw [if_neg (show ¬ (false = true) by decide)] at H; exact H
    clear H
    have H := H1
    clear H1
    simp only [Option.some.injEq, Prod.mk.injEq] at H
    obtain ⟨rfl, rfl⟩ := H
    go_enter Try.func13, Try.ntmps13
    go_wp2_with (first | ((with_reducible refine gate_callee (f := 31) rfl ?_); refine goesL_ (some 8) rfl rfl Try.func31 (by kernel_rfl) rfl #[.int .i64 a0] rfl (by (try simp only [List.map_toArray, List.map_cons, List.map_nil]); first | done | rfl | (simp only [List.length_drop, List.length_take]; rfl)) ?_; (with_reducible refine (impl_TreePath.calls a0 t145 false _ A2.out).mono ?_); rintro e w11 ⟨v147, rfl, ho0, hb⟩; refine ⟨_, rfl, ?_⟩; have n0_ := Aside0.mk (Kd.R_lower ho0 (below_size (by repeat (first | (with_reducible first | exact HB.out | apply below_alloc | apply pw_below_drewN | apply below_drew1) | exact HB.out)))); have n1_ := Aside0.mk (below_step (by repeat (first | (with_reducible first | exact HB.out | apply below_alloc | apply pw_below_drewN | apply below_drew1) | exact HB.out)) hb); clear HB; have HO148 := n0_; have HB := n1_; clear n0_ n1_; (try clear hb); (try clear ho0)))
    go_ret2
    exact ⟨by first | rfl | (simp [errW_none, errW_some] <;> rfl) | (simp [*, errW_none, errW_some] <;> rfl), by repeat (first | (with_reducible first | exact HB.out | apply below_alloc | apply pw_below_drewN | apply below_drew1) | exact HB.out)⟩

/-! ### laws_FnExactTreeParent: function 4 -/
def laws_FnExactTreeParent.f (k : Nat) (a0 : Int) : Option (Bool) := (spec_TreeParent.f k a0).bind fun bt150 => ((impl_TreeParent.f a0).bind fun bt152 => (if bt152.1 = bt150.1 then (if (bt152.2 != bt150.2) = true then (some false) else (some true)) else (some false)))
theorem laws_FnExactTreeParent.mono : ∀ a0 k, LeO (laws_FnExactTreeParent.f k a0) (laws_FnExactTreeParent.f (k + 1) a0) := by
  intro a0 k
  unfold laws_FnExactTreeParent.f
  repeat' first
      | (with_reducible exact spec_TreeParent.mono _ _)
      | (with_reducible exact LeO.refl _)
      | (with_reducible exact LeO.none _)
      | (with_reducible refine LeO.ite ?_ ?_)
      | (with_reducible refine LeO.bind ?_ (fun _ => ?_))
      | exact spec_TreeParent.mono _ _
      | exact LeO.none _
      | refine LeO.ite ?_ ?_
      | refine LeO.bind ?_ (fun _ => ?_)
set_option maxHeartbeats 8000000 in
set_option maxRecDepth 100000 in
theorem laws_FnExactTreeParent.calls (k : Nat) (a0 : Int) (r : Bool) (w : World) (h : laws_FnExactTreeParent.f k a0 = some r) :
    Calls Try.prog 4 #[.int .i64 a0] w fun e w' => e = .returned (.bool r) ∧ Below w.heap.size w w' := by
  have HB := Aside0.mk (Below.refl w.heap.size w)
  have H : ((spec_TreeParent.f k a0).bind fun bt150 => ((impl_TreeParent.f a0).bind fun bt152 => (if bt152.1 = bt150.1 then (if (bt152.2 != bt150.2) = true then (some false) else (some true)) else (some false)))) = some r := h
  clear h
  replace H := Option.bind_eq_some_iff.mp H
  obtain ⟨⟨t150, t151⟩, A20, H⟩ := H
  replace H : ((impl_TreeParent.f a0).bind fun bt152 => (if bt152.1 = t150 then (if (bt152.2 != t151) = true then (some false) else (some true)) else (some false))) = some r := H
  have A2 := Aside0.mk A20
  clear A20
  replace H := Option.bind_eq_some_iff.mp H
  obtain ⟨⟨t152, t153⟩, A30, H⟩ := H
  replace H : (if t152 = t150 then (if (t153 != t151) = true then (some false) else (some true)) else (some false)) = some r := H
  have A3 := Aside0.mk A30
  clear A30
  by_cases c4 : t152 = t150
  · rw [if_pos c4] at H
    have c4b0 : (t152 == t150) = true := beq_iff_eq.mpr c4
    have c4b1 : (t152 != t150) = false := bne_eq_false_iff_eq.mpr c4
    clear c4
    by_cases c5 : (t153 != t151) = true
    · rw [if_pos c5] at H
      have c5b0 : (t153 != t151) = true := c5
      (try (have c5b1 : decide (t153 = t151) = false := by simpa using c5))
      (try (have c5b2 : (t153 == t151) = false := by simpa using c5))
      (try (have c5b3 : ¬ (t153 = t151) := by simpa using c5))
      clear c5
      obtain rfl := Option.some.inj H
      go_enter Try.func4, Try.ntmps4
      go_wp2_with (first | ((with_reducible refine gate_callee (f := 12) rfl ?_); refine goesL_ (some 9) rfl rfl Try.func12 (by kernel_rfl) rfl #[.int .i64 a0] rfl (by (try simp only [List.map_toArray, List.map_cons, List.map_nil]); first | done | rfl | (simp only [List.length_drop, List.length_take]; rfl)) ?_; (with_reducible refine (spec_TreeParent.calls k a0 t150 t151 _ A2.out).mono ?_); rintro e w6 ⟨rfl, hb⟩; refine ⟨_, rfl, ?_⟩; have n0_ := Aside0.mk (below_step (by repeat (first | (with_reducible first | exact HB.out | apply below_alloc | apply pw_below_drewN | apply below_drew1) | exact HB.out)) hb); clear HB; have HB := n0_; clear n0_; (try clear hb)) | ((with_reducible refine gate_callee (f := 13) rfl ?_); refine goesL_ (some 14) rfl rfl Try.func13 (by kernel_rfl) rfl #[.int .i64 a0] rfl (by (try simp only [List.map_toArray, List.map_cons, List.map_nil]); first | done | rfl | (simp only [List.length_drop, List.length_take]; rfl)) ?_; (with_reducible refine (impl_TreeParent.calls a0 t152 t153 _ A3.out).mono ?_); rintro e w7 ⟨rfl, hb⟩; refine ⟨_, rfl, ?_⟩; have n0_ := Aside0.mk (below_step (by repeat (first | (with_reducible first | exact HB.out | apply below_alloc | apply pw_below_drewN | apply below_drew1) | exact HB.out)) hb); clear HB; have HB := n0_; clear n0_; (try clear hb)))
      go_ret
      exact ⟨by first | rfl | (simp [errW_none, errW_some] <;> rfl) | (simp [*, errW_none, errW_some] <;> rfl), by repeat (first | (with_reducible first | exact HB.out | apply below_alloc | apply pw_below_drewN | apply below_drew1) | exact HB.out)⟩
    · rw [if_neg c5] at H
      have c5b0 : (t153 != t151) = false := by simpa using c5
      (try (have c5b1 : decide (t153 = t151) = true := by simpa using c5))
      (try (have c5b2 : (t153 == t151) = true := by simpa using c5))
      clear c5
      obtain rfl := Option.some.inj H
      go_enter Try.func4, Try.ntmps4
      go_wp2_with (first | ((with_reducible refine gate_callee (f := 12) rfl ?_); refine goesL_ (some 9) rfl rfl Try.func12 (by kernel_rfl) rfl #[.int .i64 a0] rfl (by (try simp only [List.map_toArray, List.map_cons, List.map_nil]); first | done | rfl | (simp only [List.length_drop, List.length_take]; rfl)) ?_; (with_reducible refine (spec_TreeParent.calls k a0 t150 t151 _ A2.out).mono ?_); rintro e w8 ⟨rfl, hb⟩; refine ⟨_, rfl, ?_⟩; have n0_ := Aside0.mk (below_step (by repeat (first | (with_reducible first | exact HB.out | apply below_alloc | apply pw_below_drewN | apply below_drew1) | exact HB.out)) hb); clear HB; have HB := n0_; clear n0_; (try clear hb)) | ((with_reducible refine gate_callee (f := 13) rfl ?_); refine goesL_ (some 14) rfl rfl Try.func13 (by kernel_rfl) rfl #[.int .i64 a0] rfl (by (try simp only [List.map_toArray, List.map_cons, List.map_nil]); first | done | rfl | (simp only [List.length_drop, List.length_take]; rfl)) ?_; (with_reducible refine (impl_TreeParent.calls a0 t152 t153 _ A3.out).mono ?_); rintro e w9 ⟨rfl, hb⟩; refine ⟨_, rfl, ?_⟩; have n0_ := Aside0.mk (below_step (by repeat (first | (with_reducible first | exact HB.out | apply below_alloc | apply pw_below_drewN | apply below_drew1) | exact HB.out)) hb); clear HB; have HB := n0_; clear n0_; (try clear hb)))
      go_ret
      exact ⟨by first | rfl | (simp [errW_none, errW_some] <;> rfl) | (simp [*, errW_none, errW_some] <;> rfl), by repeat (first | (with_reducible first | exact HB.out | apply below_alloc | apply pw_below_drewN | apply below_drew1) | exact HB.out)⟩
  · rw [if_neg c4] at H
    have c4b0 : (t152 == t150) = false := beq_eq_false_iff_ne.mpr c4
    have c4b1 : (t152 != t150) = true := bne_iff_ne.mpr c4
    obtain rfl := Option.some.inj H
    go_enter Try.func4, Try.ntmps4
    go_wp2_with (first | ((with_reducible refine gate_callee (f := 12) rfl ?_); refine goesL_ (some 9) rfl rfl Try.func12 (by kernel_rfl) rfl #[.int .i64 a0] rfl (by (try simp only [List.map_toArray, List.map_cons, List.map_nil]); first | done | rfl | (simp only [List.length_drop, List.length_take]; rfl)) ?_; (with_reducible refine (spec_TreeParent.calls k a0 t150 t151 _ A2.out).mono ?_); rintro e w10 ⟨rfl, hb⟩; refine ⟨_, rfl, ?_⟩; have n0_ := Aside0.mk (below_step (by repeat (first | (with_reducible first | exact HB.out | apply below_alloc | apply pw_below_drewN | apply below_drew1) | exact HB.out)) hb); clear HB; have HB := n0_; clear n0_; (try clear hb)) | ((with_reducible refine gate_callee (f := 13) rfl ?_); refine goesL_ (some 14) rfl rfl Try.func13 (by kernel_rfl) rfl #[.int .i64 a0] rfl (by (try simp only [List.map_toArray, List.map_cons, List.map_nil]); first | done | rfl | (simp only [List.length_drop, List.length_take]; rfl)) ?_; (with_reducible refine (impl_TreeParent.calls a0 t152 t153 _ A3.out).mono ?_); rintro e w11 ⟨rfl, hb⟩; refine ⟨_, rfl, ?_⟩; have n0_ := Aside0.mk (below_step (by repeat (first | (with_reducible first | exact HB.out | apply below_alloc | apply pw_below_drewN | apply below_drew1) | exact HB.out)) hb); clear HB; have HB := n0_; clear n0_; (try clear hb)))
    go_ret
    exact ⟨by first | rfl | (simp [errW_none, errW_some] <;> rfl) | (simp [*, errW_none, errW_some] <;> rfl), by repeat (first | (with_reducible first | exact HB.out | apply below_alloc | apply pw_below_drewN | apply below_drew1) | exact HB.out)⟩

/-- THE ONE PURE STATEMENT of laws_FnExactTreeParent: yours. -/
def laws_FnExactTreeParent.Pure : Prop := ∀ (a0 : Int), (Lit.int .i64 a0).wf = true → ∃ k, laws_FnExactTreeParent.f k a0 = some true
theorem laws_FnExactTreeParent.walk (P : laws_FnExactTreeParent.Pure) (a0 : Int) (w : World) (w0 : (Lit.int .i64 a0).wf = true) :
    Calls Try.prog 4 #[.int .i64 a0] w fun e w' => e = .returned (.bool true) ∧ Below w.heap.size w w' := by
  obtain ⟨k, h⟩ := P a0 w0
  refine (laws_FnExactTreeParent.calls k a0 true w h).mono ?_
  rintro e w' ⟨rfl, hd⟩
  exact ⟨rfl, hd⟩

end Go.Proofs.Ytbjmnneaflmgaaa.MFnExactTreeParent
