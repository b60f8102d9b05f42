-- Written by wip/mine.py (a program of this repo) for this claim.
import Derived.Test.YtbjmnneaflmgaaaMFnTreeOfPowersx0
import Derived.Test.YtbjmnneaflmgaaaMFnTreeOfPowersx1
namespace Go.Proofs.Ytbjmnneaflmgaaa.MFnTreeOfPowers
open Go.RowKit Go.Proofs.YtbjmnneaflmgaaaW.PrintWords Go.Proofs.YtbjmnneaflmgaaaW.PrintLast Go.Proofs.YtbjmnneaflmgaaaW.PrintMore Go.Proofs.YtbjmnneaflmgaaaV
attribute [local go_sem] max2_int min2_int max_two min_two max_three min_three max_four min_four   -- for this text's walks alone
set_option linter.unusedVariables false
set_option linter.unusedSimpArgs false


/-! ### impl_treeWays: function 28 -/
section
open Go.Proofs.YtbjmnneaflmgaaaWT Go.Proofs.YtbjmnneaflmgaaaWM Go.Maps
theorem impl_treeWays.law : Keyed Try.prog 3 := int_keyed Try.underlying3
theorem impl_treeWays.zero (w : World) : (zeroValue 22).run Try.prog w = .ok (.slice none 0 0) w := by kernel_rfl
def impl_treeWays.KS : Kd (Option Addr × Nat × Nat) := Kd.scalar (fun s => Value.slice s.1 s.2.1 s.2.2) (fun _ => rfl)
theorem impl_treeWays.info22 : (Try.prog.info? 22).map (fun i => (i.zero, i.size, i.bytes)) = some (some (.slice none 0 0), 1, 24) := by kernel_rfl
theorem impl_treeWays.wf {x : Int} (h1 : -1000000 ≤ x) (h2 : x ≤ 1000000) : (Lit.int .i64 x).wf = true := WalkArith.wf_i64 (by omega)
theorem impl_treeWays.add {a b : Int} (h1 : 1 ≤ a) (h2 : a ≤ 1000) (h3 : 1 ≤ b) (h4 : b ≤ 1000) : wrap64 (a + b) = a + b := by unfold wrap64; omega
theorem impl_treeWays.inc {i n : Nat} (h : i < n) (hn : n ≤ 1000000) : wrap64 ((i : Int) + 1) = ((i + 1 : Nat) : Int) := by unfold wrap64; omega
theorem impl_treeWays.last {n l : Nat} (h : n = l + 1) (hn : n ≤ 1000000) : wrap64 ((n : Int) - 1) = (l : Int) := by unfold wrap64; omega
/-- What holds of the list at the head of the middle loop's round. -/
theorem impl_treeWays.atRow {B : Nat} (h1 : 1 ≤ B) (s i : Nat) (hi : i < ((wRun B s).drop s).length) : ∃ p, (wRun B (s + i))[s + i]? = some p ∧ rd (((wRun B s).drop s).map wEnd) (i : Int) = wEnd p ∧ p ≠ [] ∧ (∀ x ∈ p, 1 ≤ x ∧ x ≤ (B : Int)) ∧ wEnd p ≤ (B : Int) ∧ 1 ≤ wEnd p := by
  have hl : s + i < (wRun B s).length := by rw [List.length_drop] at hi; omega
  have hg : (wRun B s)[s + i]? = some ((wRun B s)[s + i]'hl) := List.getElem?_eq_getElem hl
  have hm := List.getElem_mem hl
  have ok := wRun_ok (show (1 : Int) ≤ B by omega) s
  have way := wRun_way (show (1 : Int) ≤ B by omega) s _ hm
  refine ⟨_, wRun_get B s i _ _ hg, ?_, ok.ne _ hm, fun x hx => ⟨ok.pos _ hm x hx, ?_⟩, ok.most _ hm, ok.pos _ hm _ (wEnd_mem (ok.ne _ hm))⟩
  · unfold rd
    rw [Int.toNat_natCast, List.getD_eq_getElem?_getD, List.getElem?_map, List.getElem?_drop, hg]
    rfl
  · have := way.top x hx
    have := ok.most _ hm
    omega
theorem impl_treeWays.fold_ok {B : Nat} (h1 : 1 ≤ B) (s : Nat) (p : List Int) (hp : (wRun B s)[s]? = some p) (j : Nat) : WOk B ((p.take j).foldl (wAdd B p) (wRun B s)) := by
  have ok := wRun_ok (show (1 : Int) ≤ B by omega) s
  have hm := List.mem_of_getElem? hp
  exact wFold_ok (ok.pos _ hm) (ok.ne _ hm) _ _ (fun x hx => ok.pos _ hm x (List.mem_of_mem_take hx)) ok
theorem impl_treeWays.fold_mem {B : Nat} (s : Nat) (p : List Int) (hp : (wRun B s)[s]? = some p) (j : Nat) : p ∈ (p.take j).foldl (wAdd B p) (wRun B s) := by
  obtain ⟨E, h⟩ := wFold_pre B p (p.take j) (wRun B s)
  rw [h]
  exact List.mem_append_left _ (List.mem_of_getElem? hp)
theorem impl_treeWays.fold_len {B : Nat} (h1 : 1 ≤ B) (s : Nat) (p : List Int) (hp : (wRun B s)[s]? = some p) (j : Nat) (hj : j ≤ p.length) : ((p.take j).foldl (wAdd B p) (wRun B s)).length ≤ B ∧ (wRun B s).length ≤ ((p.take j).foldl (wAdd B p) (wRun B s)).length := by
  refine ⟨?_, wFold_length _ _ _ _⟩
  have e : p.foldl (wAdd B p) (wRun B s) = (p.drop j).foldl (wAdd B p) ((p.take j).foldl (wAdd B p) (wRun B s)) := by rw [← List.foldl_append, List.take_append_drop]
  have := wFold_length B p (p.drop j) ((p.take j).foldl (wAdd B p) (wRun B s))
  rw [← e, ← wRun_step hp] at this
  exact Nat.le_trans this (wRun_len h1 (s + 1))
set_option maxHeartbeats 4000000 in
set_option maxRecDepth 100000 in
theorem impl_treeWays.calls (B : Nat) (h1 : 1 ≤ B) (h2 : B ≤ 1000) (w : World) :
    Calls Try.prog 28 #[.int .i64 (B : Int)] w fun e w' => ∃ (M : Nat) (v5 : Value), e = .returned (.tuple #[.map (some M), v5]) ∧ w.heap.size ≤ M ∧ Ways Try.prog 3 3 w' M (fun _ => True) (wAll B) ∧ Below w.heap.size w w' := by
  have hmm := @run_makeMap Try.prog
  have HN := Aside0.mk (And.intro h1 h2)
  have HW0 := Aside0.mk (Ways.made (P := Try.prog) (k := 3) (ti := 3) w (fun _ => True))
  have HB0 := Aside0.mk (below_alloc (Below.refl w.heap.size w) (.map #[] 0))
  clear h1 h2
  go_enter Try.func28, Try.ntmps28
  go_wp2_with (first
    | ((with_reducible refine gate_dst (N := 13) rfl ?_); refine Kd.R_lit (Kd.int .i64) _ 3 ?hg (N := 13) ?hd (xs := ([1] : List Int)) (inner := [.int .i64 1]) (ok := fun _ => True) (okp := fun _ => True) ?hr ?hp (fun _ hk => hk) trivial (Below.refl _ _) (Nat.le_refl _) (by simp) ?_; (case hd => rfl); (case hg => rfl); (case hr => first | (go_simp; done) | (go_simp; rfl)); (case hp => exact (Reps.one (show Kd.M (Kd.int .i64) _ _ _ 1 [.int .i64 1] from rfl) (Reps.none _ _))); intro v13 w1 ho hb hg hn; have HO13 := Aside0.mk ho; have HB1 := Aside0.mk (below_step HB0.out hb); have HW1 := Aside0.mk (HW0.out.grown hg (by simp) (by simp)); clear ho hb hg hn)
    | ((with_reducible refine gate_insert (t := 44) rfl ?_); obtain ⟨w2, hrun, hw, hg⟩ := HW1.out.store impl_treeWays.law Try.underlying3 (E := 22) Try.underlying44 (v := v13) (q := [1]) (m := 1) rfl rfl (impl_treeWays.wf (by omega) (by omega)) (by have := HO13.out; simpa using this) (by unfold maxLen; simp); refine wp_insert_run rfl _ _ _ 44 rfl (mv := .map (some w.heap.size)) (key := .int .i64 1) (u := v13) rfl rfl rfl hrun ?_; have HW2 := Aside0.mk hw; have HB2 := Aside0.mk (pw_below_grown HB1.out (some w.heap.size) HB1.out.size hg (by rintro k ⟨⟩; exact Nat.le_refl _)); clear hrun hw hg)
    | ((with_reducible refine gate_dst (N := 15) rfl ?_); refine Kd.R_lit (Kd.int .i64) _ 3 ?hg (N := 15) ?hd (xs := ([1] : List Int)) (inner := [.int .i64 1]) (ok := fun _ => True) (okp := fun _ => True) ?hr ?hp (fun _ hk => hk) trivial (Below.refl _ _) (Nat.le_refl _) (by simp) ?_; (case hd => rfl); (case hg => rfl); (case hr => first | (go_simp; done) | (go_simp; rfl)); (case hp => exact (Reps.one (show Kd.M (Kd.int .i64) _ _ _ 1 [.int .i64 1] from rfl) (Reps.none _ _))); intro v15 w3 ho hb hg hn; have HO15 := Aside0.mk (Kd.R_lower ho HB2.out.size); have HB3 := Aside0.mk (below_step HB2.out hb); have HW3 := Aside0.mk (HW2.out.below hb); clear ho hb hg hn; obtain ⟨A15, c15, e15⟩ := Kd.R_slice HO15.out; replace e15 : v15 = .slice A15 1 c15 := e15; subst e15)
    | ((with_reducible refine gate_dst (N := 16) rfl ?_); refine Kd.R_lit impl_treeWays.KS _ 22 ?hg (N := 16) ?hd (xs := [(A15, 1, c15)]) (inner := [.slice A15 1 c15]) (ok := fun _ => True) (okp := fun _ => True) ?hr ?hp (fun _ hk => hk) trivial (Below.refl _ _) (Nat.le_refl _) (by simp) ?_; (case hd => rfl); (case hg => rfl); (case hr => first | (go_simp; done) | (go_simp; rfl)); (case hp => exact (Reps.one (show Kd.M impl_treeWays.KS _ _ _ (A15, 1, c15) [.slice A15 1 c15] from rfl) (Reps.none _ _))); intro v16 w4 ho hb hg hn; have HO16 := Aside0.mk (Kd.R_lower ho HB3.out.size); have HB4 := Aside0.mk (below_step HB3.out hb); have HW4 := Aside0.mk (HW3.out.below hb); have HO15b := Aside0.mk (Kd.R_below HO15.out hb); clear ho hb hg hn))
  go_loopg [5] B (fun gg s5 wr => ∃ (s : Nat) (L : List (Option Addr × Nat × Nat)) (A : Option Addr) (c : Nat) (v5 : Value), Aside0 (s < (wRun B s).length ∧ B - s ≤ gg ∧ Below w.heap.size w wr ∧ Kd.R impl_treeWays.KS 22 wr w.heap.size (fun _ => True) v5 (L ++ [(A, ((wRun B s).drop s).length, c)]) ∧ Kd.R (Kd.int .i64) 3 wr w.heap.size (fun _ => True) (.slice A ((wRun B s).drop s).length c) (((wRun B s).drop s).map wEnd) ∧ Ways Try.prog 3 3 wr w.heap.size (fun _ => True) (wRun B s) ∧ L.length ≤ s) ∧ s5 = v5)
  case atStart => exact ⟨0, [], A15, c15, v16, ⟨⟨Nat.zero_lt_one, by omega, HB4.out, HO16.out, HO15b.out, HW4.out, Nat.le_refl _⟩⟩, rfl⟩
  case round =>
    obtain ⟨W0, rfl⟩ : ∃ W0, W0 = wr := ⟨_, rfl⟩
    obtain ⟨s, L, A, c, v5, HK, rfl⟩ := hrel
    obtain ⟨q1, q2, q3, q4, q5, q6, q7⟩ := HK.out
    clear HK
    obtain ⟨h1, h2⟩ := HN.out
    obtain ⟨A5, c5, e5⟩ := Kd.R_slice q4
    obtain ⟨n5, hn5⟩ : ∃ n5, (L ++ [(A, ((wRun B s).drop s).length, c)]).length = n5 := ⟨_, rfl⟩
    rw [hn5] at e5
    subst e5
    obtain ⟨-, -, hC5⟩ := Kd.R_reads' q4
    rw [hn5] at hC5
    have hn5' : n5 = L.length + 1 := by rw [← hn5, List.length_append]; rfl
    have hsB : s < B := Nat.lt_of_lt_of_le q1 (wRun_len h1 s)
    have hl5 := impl_treeWays.last hn5' (by omega)
    obtain ⟨ad5, eA5, hx⟩ := ReadsOf.at_ (Kd.reads_of_C (enc := fun s : Option Addr × Nat × Nat => Value.slice s.1 s.2.1 s.2.2) (d := (none, 0, 0)) (h1 := fun _ => rfl) hC5) (L.length : Int) (by omega) (by omega)
    subst eA5
    have hel : rdOf (none, 0, 0) (L ++ [(A, ((wRun B s).drop s).length, c)]) (L.length : Int) = (A, ((wRun B s).drop s).length, c) := by unfold rdOf; rw [Int.toNat_natCast, List.getD_eq_getElem?_getD, List.getElem?_append_right (Nat.le_refl _), Nat.sub_self]; rfl
    rw [hel, ← hl5] at hx
    obtain ⟨n, hn⟩ : ∃ n, ((wRun B s).drop s).length = n := ⟨_, rfl⟩
    rw [hn] at hx q4 q5
    have hnl : n = (wRun B s).length - s := by rw [← hn, List.length_drop]
    have hnB : s + n ≤ B := by have := wRun_len h1 s; omega
    have g0 : (0 : Int) ≤ wrap64 ((n5 : Int) - 1) := by omega
    have g1 : wrap64 ((n5 : Int) - 1) < (n5 : Int) := by omega
    have hxl : (((wRun B s).drop s).map wEnd).length = n := by rw [List.length_map, hn]
    have Q1 := Aside0.mk q1
    have Q2 := Aside0.mk q2
    have Q3 := Aside0.mk q3
    have Q4 := Aside0.mk q4
    have Q5 := Aside0.mk q5
    have Q6 := Aside0.mk q6
    have Q7 := Aside0.mk q7
    have HX := Aside0.mk hx
    have N5 := Aside0.mk hn5'
    have NL := Aside0.mk hnl
    have NB := Aside0.mk hnB
    have ND := Aside0.mk hn
    have XL := Aside0.mk hxl
    have SB := Aside0.mk hsB
    clear q1 q2 q3 q4 q5 q6 q7 hn5 hC5 hn5' hl5 hel hn hnl hnB hxl hsB h1 h2
    go_wp2_with ((with_reducible refine gate_dst (N := 17) rfl ?_); refine Kd.R_lit (Kd.int .i64) _ 3 ?hg (N := 17) ?hd (xs := ([] : List Int)) (inner := []) (ok := fun _ => True) (okp := fun _ => True) ?hr ?hp (fun _ hk => hk) trivial (Below.refl _ _) (Nat.le_refl _) (by simp) ?_; (case hd => rfl); (case hg => rfl); (case hr => first | (go_simp; done) | (go_simp; rfl)); (case hp => exact (Reps.none _ _)); intro v17 w1 ho hb hg hn; have HO17 := Aside0.mk ho; have HB17 := Aside0.mk hb; have hx1 := pw_cell_below hb HX.out; clear ho hb hg hn)
    clear hx hx1
    go_loopg [6, 25] n (fun gg s6 s25 wq => ∃ (i : Nat) (v6 : Value), Aside0 (i ≤ n ∧ n - i ≤ gg ∧ Kept W0 wq (fun j => j = w.heap.size) ∧ Below w.heap.size w wq ∧ Kd.R (Kd.int .i64) 3 wq W0.heap.size (fun _ => True) v6 (((wRun B (s + i)).drop (s + n)).map wEnd) ∧ Ways Try.prog 3 3 wq w.heap.size (fun j => some j ≠ v6.ownBlock) (wRun B (s + i))) ∧ v6 = s6 ∧ s25 = .int .i64 i)
    case atStart =>
      refine ⟨0, v17, ⟨⟨Nat.zero_le _, by omega, Kept.of_below HB17.out _, below_step Q3.out HB17.out, ?_, ?_⟩⟩, rfl, rfl⟩
      · have : (wRun B (s + 0)).drop (s + n) = [] := List.drop_eq_nil_of_le (by have := NL.out; have := Q1.out; rw [Nat.add_zero]; omega)
        rw [this]
        exact HO17.out
      · refine Ways.reno (((Q6.out.reno (ok' := fun j => j < W0.heap.size) (fun j _ _ h => h)).below HB17.out)) (fun j hj _ _ e => ?_)
        have := Kd.R_base HO17.out j e.symm
        omega
    case round =>
      obtain ⟨W1, rfl⟩ : ∃ W1, W1 = wr := ⟨_, rfl⟩
      obtain ⟨i, v6, HK, rfl, rfl⟩ := hrel
      obtain ⟨r1, r2, r3, r4, r5, r6⟩ := HK.out
      clear HK
      by_cases hlt : i < n
      · have hltz : (i : Int) < (n : Int) := by omega
        obtain ⟨h1, h2⟩ := HN.out
        obtain ⟨p, hp, hrd, hpne, hpb, hm1, hm2⟩ := impl_treeWays.atRow h1 s i (by rw [ND.out]; exact hlt)
        obtain ⟨ad, eA, hc⟩ := Kd.at_int (Kd.R_reads' Q5.out).2.2 (i : Int) (by omega) (by rw [XL.out]; exact hltz)
        subst eA
        rw [hrd, Int.toNat_natCast] at hc
        have hcq := cell_kept hc r3 (Q6.out.cell_ne hc)
        obtain ⟨v31, hrun31, hR31, hv31⟩ := r6.look impl_treeWays.law Try.underlying3 Try.underlying44 (impl_treeWays.zero W1) (wRun_ok (show (1 : Int) ≤ B by omega) _).one (wRun_ok (show (1 : Int) ≤ B by omega) _).ne (wEnd p) (impl_treeWays.wf (by omega) (by omega))
        have eto : wTo (wRun B (s + i)) (wEnd p) = p := wTo_of1 (wRun_ok (show (1 : Int) ≤ B by omega) _).one (List.mem_of_getElem? hp)
        rcases hv31 with ⟨hs, _⟩ | ⟨_, a31, c31, e31⟩
        · have := (wSeen_iff _ _).2 ⟨p, List.mem_of_getElem? hp, rfl⟩
          rw [hs] at this
          cases this
        rw [eto] at hR31 e31
        subst e31
        obtain ⟨m, hm⟩ : ∃ m, wEnd p = m := ⟨_, rfl⟩
        rw [hm] at hrun31 hcq hm1 hm2
        obtain ⟨np, hnp⟩ : ∃ np, p.length = np := ⟨_, rfl⟩
        rw [hnp] at hrun31 hR31
        have HP := Aside0.mk hp
        have PB := Aside0.mk hpb
        have PN := Aside0.mk hpne
        have HM := Aside0.mk hm
        have NP := Aside0.mk hnp
        have M1 := Aside0.mk hm1
        have M2 := Aside0.mk hm2
        have R2 := Aside0.mk r2
        have R3 := Aside0.mk r3
        have R4 := Aside0.mk r4
        have R5 := Aside0.mk r5
        have R6 := Aside0.mk r6
        have R31 := Aside0.mk hR31
        have NPB := Aside0.mk (show np ≤ 1000 from by
          rw [← hnp]
          have ok := wRun_ok (show (1 : Int) ≤ B by omega) (s + i)
          have := wRun_up (show (1 : Int) ≤ B by omega) (s + i) p (List.mem_of_getElem? hp)
          have := nodup_le B p (this.imp (fun h e => by omega)) (fun x hx => hpb x hx)
          omega)
        clear hp hpb hpne hm hnp hm1 hm2 r2 r3 r4 r5 r6 hR31 hrd hc eto h1 h2
        go_wp2_with ((with_reducible refine gate_dst (N := 31) rfl ?_); refine wp_lookup_run rfl _ _ 44 rfl (mv := .map (some w.heap.size)) (key := .int .i64 m) (v := .slice (some a31) np c31) rfl rfl hrun31 ?_)
        clear hrun31 hcq
        go_loopg [6, 33] np (fun gg s6 s33 wx => ∃ (j : Nat) (v6 : Value), Aside0 (j ≤ np ∧ np - j ≤ gg ∧ Kept W0 wx (fun j => j = w.heap.size) ∧ Below w.heap.size w wx ∧ Kd.R (Kd.int .i64) 3 wx W0.heap.size (fun _ => True) v6 ((((p.take j).foldl (wAdd B p) (wRun B (s + i))).drop (s + n)).map wEnd) ∧ Ways Try.prog 3 3 wx w.heap.size (fun j => some j ≠ v6.ownBlock) ((p.take j).foldl (wAdd B p) (wRun B (s + i))) ∧ Kd.R (Kd.int .i64) 3 wx (w.heap.size + 1) (fun j => some j ≠ v6.ownBlock) (.slice (some a31) np c31) p) ∧ v6 = s6 ∧ s33 = .int .i64 j)
        case atStart => exact ⟨0, v6, ⟨⟨Nat.zero_le _, by omega, R3.out, R4.out, R5.out, R6.out, R31.out⟩⟩, rfl, rfl⟩
        case round =>
          obtain ⟨W2, rfl⟩ : ∃ W2, W2 = wr := ⟨_, rfl⟩
          obtain ⟨j, v6, HK, rfl, rfl⟩ := hrel
          obtain ⟨t1, t2, t3, t4, t5, t6, t7⟩ := HK.out
          clear HK R3 R4 R5 R6 R31
          by_cases hjt : j < np
          · have hjtz : (j : Int) < (np : Int) := by omega
            obtain ⟨h1, h2⟩ := HN.out
            obtain ⟨ad2, e2, hc2⟩ := Kd.at_int (Kd.R_reads' t7).2.2 (j : Int) (by omega) (by rw [NP.out]; exact hjtz)
            cases e2
            rw [Int.toNat_natCast] at hc2
            have hjp : j < p.length := by rw [NP.out]; exact hjt
            have erd : rd p (j : Int) = p[j]'hjp := by unfold rd; rw [Int.toNat_natCast]; simp [List.getD, hjp]
            obtain ⟨b1, b2⟩ := PB.out _ (List.getElem_mem hjp)
            have hfold := wFold_take B p (wRun B (s + i)) j hjp
            rw [← erd] at b1 b2 hfold
            obtain ⟨a, ha⟩ : ∃ a, rd p (j : Int) = a := ⟨_, rfl⟩
            rw [ha] at hc2 b1 b2 hfold
            have hxx := impl_treeWays.add (a := m) (b := a) M2.out (by have := M1.out; omega) b1 (by omega)
            obtain ⟨x, hx⟩ : ∃ x, m + a = x := ⟨_, rfl⟩
            have hadd : wrap64 (m + a) = x := by rw [hxx, hx]
            have okD := impl_treeWays.fold_ok h1 (s + i) p HP.out j
            have pD := impl_treeWays.fold_mem (s + i) p HP.out j
            obtain ⟨lD, lD2⟩ := impl_treeWays.fold_len h1 (s + i) p HP.out j (by rw [NP.out]; exact t1)
            obtain ⟨D, hD⟩ : ∃ D, (p.take j).foldl (wAdd B p) (wRun B (s + i)) = D := ⟨_, rfl⟩
            rw [hD] at t5 t6 hfold okD pD lD lD2
            have hsn : s + n ≤ D.length := by
              obtain ⟨E, hE⟩ := wRun_pre B s i
              rw [hE, List.length_append] at lD2
              have := NL.out
              have := Q1.out
              omega
            have hstep : wAdd B p D a = if x ≤ B ∧ wSeen D x = false then D ++ [p ++ [x]] else D := by unfold wAdd; rw [HM.out, hx]
            have hdrop := wAdd_drop B p D a (s + n) hsn
            rw [HM.out, hx] at hdrop
            have hinc := impl_treeWays.inc hjt (by have := NPB.out; omega)
            have hxr : 1 ≤ x ∧ x ≤ 2000 := by have := M1.out; have := M2.out; omega
            have T2 := Aside0.mk t2
            have T3 := Aside0.mk t3
            have T4 := Aside0.mk t4
            have T5 := Aside0.mk t5
            have T7 := Aside0.mk t7
            have HF := Aside0.mk hfold
            have HS := Aside0.mk hstep
            have HD := Aside0.mk hdrop
            have HI := Aside0.mk hinc
            have OK := Aside0.mk okD
            have PD := Aside0.mk pD
            have LD := Aside0.mk lD
            have XR := Aside0.mk hxr
            have HX2 := Aside0.mk hx
            by_cases hxB : x ≤ (B : Int)
            · have hd : decide (x ≤ (B : Int)) = true := decide_eq_true hxB
              obtain ⟨v46, hrun46, _, hv46⟩ := t6.look impl_treeWays.law Try.underlying3 Try.underlying44 (impl_treeWays.zero W2) okD.one okD.ne x (impl_treeWays.wf (by omega) (by omega))
              have T6 := Aside0.mk t6
              rcases hv46 with ⟨hs, rfl⟩ | ⟨hs, a46, c46, rfl⟩
              · have heq := fun (W : World) => Lib.run_eql_slice_nil (P := Try.prog) W 22 3 none 0 0 0 0 Try.underlying22
                have hyes : x ≤ (B : Int) ∧ wSeen D x = false := ⟨hxB, hs⟩
                have HY := Aside0.mk hyes
                obtain ⟨v53, hrun53, hR53, hv53⟩ := t6.look impl_treeWays.law Try.underlying3 Try.underlying44 (impl_treeWays.zero W2) okD.one okD.ne m (impl_treeWays.wf (by omega) (by omega))
                have eto : wTo D m = p := by rw [← HM.out]; exact wTo_of1 okD.one pD
                rcases hv53 with ⟨hs2, _⟩ | ⟨_, a53, c53, rfl⟩
                · have := (wSeen_iff D m).2 ⟨p, pD, HM.out⟩
                  rw [hs2] at this
                  cases this
                rw [eto] at hrun53 hR53
                have R53 := Aside0.mk hR53
                have FF := Aside0.mk (show slices_Clone_int_int.f p = some p by unfold slices_Clone_int_int.f; rw [if_pos (by have := NP.out; have := NPB.out; omega)])
                have ND2 := Aside0.mk (show ¬ ∃ k, v6.ownBlock = some k ∧ k < W0.heap.size from by rintro ⟨k, hk, hlt⟩; have := Kd.R_base T5.out k hk; omega)
                have MB := Aside0.mk (show w.heap.size < W0.heap.size from Q6.out.lt)
                have NX := Aside0.mk (show (((D.drop (s + n)).map wEnd).length + 1) * 8 ≤ 140737488355328 from by rw [List.length_map, List.length_drop]; have := LD.out; omega)
                have PL := Aside0.mk (show (p.length + 1) * 8 ≤ 140737488355328 from by have := NP.out; have := NPB.out; omega)
                clear hyes hs eto hR53 t2 t3 t4 t5 t6 t7 hfold hstep hdrop hinc okD pD lD lD2 hxr hx hxx hsn b1 b2 erd ha hD h1 h2 hjp hxB
                go_wp2_with (first
                  | ((with_reducible refine gate_dst (N := 46) rfl ?_); refine gate_guard (by rfl) ?_; refine wp_lookup_run rfl _ _ 44 rfl (mv := .map (some w.heap.size)) (key := .int .i64 x) rfl rfl hrun46 ?_)
                  | ((with_reducible refine gate_dst (N := 53) rfl ?_); refine wp_lookup_run rfl _ _ 44 rfl (mv := .map (some w.heap.size)) (key := .int .i64 m) rfl rfl hrun53 ?_)
                  | (go_at_call 50; refine (slices_Clone_int_int.calls (some a53) c53 p p W2 (Kd.R_reads' R53.out).2.2 (Kd.R_reads' R53.out).2.1 FF.out).mono ?_; rintro e W3 ⟨v54, rfl, ho, hb⟩; have HO54 := Aside0.mk ho; have HB54 := Aside0.mk hb; clear ho hb)
                  | ((with_reducible refine gate_builtin (b := .append) (xs := #[.tmp 54, .tmp 56]) rfl ?_); at_builtin; refine Kd.R_append (Kd.int .i64) (w0 := W2) W2.heap.size rfl (.tmp 54) (.tmp 56) 22 3 (.int .i64 0) 8 rfl Try.underlying22 info3 rfl (by decide) (by omega) v54 p x [.int .i64 x] (fun _ => True) (fun _ => False) rfl rfl rfl (fun _ h => h.elim) (fun _ _ => trivial) HO54.out HB54.out HB54.out.size PL.out ?_; intro v57 W4 ho hb hg hat; have HO57 := Aside0.mk ho; have HB57 := Aside0.mk hb; clear ho hb hg hat)
                  | ((with_reducible refine gate_update (t := 44) rfl ?_); obtain ⟨W5, hru, hwu, hgu⟩ := (T6.out.below HB57.out).store impl_treeWays.law Try.underlying3 Try.underlying44 (v := v57) (q := p ++ [x]) (m := x) (wEnd_snoc p x) HY.out.2 (impl_treeWays.wf (by have := XR.out; omega) (by have := XR.out; omega)) (Kd.R_lower (Kd.R_mono (Kd.R_bound HO57.out) (fun k hk e => by have := hk.2.1; have := Kd.R_lt T5.out k e.symm; omega)) (show w.heap.size + 1 ≤ W2.heap.size from by have := MB.out; have := T3.out.1; omega)) (by have := LD.out; have := HN.out.2; unfold maxLen; omega); refine wp_store_run rfl _ _ _ 44 rfl (mv := .map (some w.heap.size)) (key := .int .i64 x) (u := v57) rfl rfl rfl hru ?_; have HW5 := Aside0.mk hwu; have HG5 := Aside0.mk hgu; clear hru hwu hgu)
                  | ((with_reducible refine gate_builtin (b := .append) (xs := #[.tmp 58, .tmp 60]) rfl ?_); at_builtin; refine Kd.R_append (Kd.int .i64) (w0 := W5) W0.heap.size rfl (.tmp 58) (.tmp 60) 22 3 (.int .i64 0) 8 rfl Try.underlying22 info3 rfl (by decide) (by omega) v6 ((D.drop (s + n)).map wEnd) x [.int .i64 x] (fun _ => True) (fun _ => False) rfl rfl rfl (fun _ h => h.elim) (fun _ _ => trivial) ?hR6 (Below.refl _ _) ?hS6 NX.out ?_; (case hR6 => exact Kd.R_mono (Kd.R_grown (Kd.R_bound (Kd.R_below T5.out HB57.out)) HG5.out (fun k hk e => by have := hk.2.1; have := MB.out; cases e; omega)) (fun _ hk => hk.1)); (case hS6 => have := T3.out.1; have := HB57.out.size; have := HG5.out.size; omega); intro v61 W6 ho hb hg hat; have HO61 := Aside0.mk ho; have HB61 := Aside0.mk hb; have HG61 := Aside0.mk hg; have HAT := Aside0.mk hat; clear ho hb hg hat))
                go_roundg (np - (j + 1))
                case measure => have := T2.out; omega
                case rel =>
                  refine ⟨j + 1, v61, ⟨⟨by omega, by omega, ?_, ?_, ?_, ?_, ?_⟩⟩, rfl, by rw [HI.out]⟩
                  · exact Kept.of_grown HG61.out (Kept.of_grown HG5.out (T3.out.below HB57.out) (fun k e => by cases e; exact .inl rfl)) (fun k e => .inr (Kd.R_base T5.out k e))
                  · exact pw_below_grown (pw_below_grown (T4.out.trans (HB57.out.mono T4.out.size)) (some w.heap.size) (Nat.le_trans T4.out.size HB57.out.size) HG5.out (by rintro k ⟨⟩; exact Nat.le_refl _)) v6.ownBlock (Nat.le_trans (Nat.le_trans T4.out.size HB57.out.size) HG5.out.size) HG61.out (fun k e => by have := Kd.R_base T5.out k e; have := MB.out; omega)
                  · rw [HF.out, HD.out, if_pos HY.out]; exact HO61.out
                  · rw [HF.out, HS.out, if_pos HY.out]
                    refine ((HW5.out.reno (ok' := fun k => some k ≠ v6.ownBlock ∧ k < W5.heap.size) (fun k h _ h2 => ⟨h, h2⟩)).grown HG61.out (fun e => by have := Kd.R_base T5.out _ e.symm; have := MB.out; omega) (fun k hk => hk.1)).reno (fun k hk _ _ e => ?_)
                    rcases HAT.out with h | ⟨b, h, hb⟩
                    · exact hk.1 (by rw [← h]; exact e)
                    · rw [h] at e; cases e; have := hk.2; omega
                  · have q1 := Kd.R_bound (Kd.R_below T7.out HB57.out)
                    have q2 := Kd.R_grown q1 HG5.out (fun k hk e => by have := hk.2.1; cases e; omega)
                    have q3 := Kd.R_grown (Kd.R_bound q2) HG61.out (fun k hk => hk.1.1)
                    refine Kd.R_mono q3 (fun k hk e => ?_)
                    rcases HAT.out with h | ⟨b, h, hb⟩
                    · exact hk.1.1 (by rw [← h]; exact e)
                    · rw [h] at e; cases e; have := hk.2.2.1; omega
              · have heq := fun (W : World) => Lib.run_eql_slice_nil (P := Try.prog) W 22 3 (some a46) (wTo D x).length c46 0 0 Try.underlying22
                have hno : ¬ (x ≤ (B : Int) ∧ wSeen D x = false) := fun h => by rw [hs] at h; cases h.2
                have HO := Aside0.mk hno
                clear hno hs t2 t3 t4 t5 t6 t7 hfold hstep hdrop hinc okD pD lD lD2 hxr hx hxx hsn b1 b2 erd ha hD h1 h2 hjp hxB
                go_wp2_with ((with_reducible refine gate_dst (N := 46) rfl ?_); refine gate_guard (by rfl) ?_; refine wp_lookup_run rfl _ _ 44 rfl (mv := .map (some w.heap.size)) (key := .int .i64 x) rfl rfl hrun46 ?_)
                go_roundg (np - (j + 1))
                case measure => have := T2.out; omega
                case rel => exact ⟨j + 1, v6, ⟨⟨by omega, by omega, T3.out, T4.out, by rw [HF.out, HS.out, if_neg HO.out]; exact T5.out, by rw [HF.out, HS.out, if_neg HO.out]; exact T6.out, T7.out⟩⟩, rfl, by rw [HI.out]⟩
            · have hd : decide (x ≤ (B : Int)) = false := decide_eq_false hxB
              have hno : ¬ (x ≤ (B : Int) ∧ wSeen D x = false) := fun h => hxB h.1
              have HO := Aside0.mk hno
              have T6 := Aside0.mk t6
              clear hno t2 t3 t4 t5 t6 t7 hfold hstep hdrop hinc okD pD lD lD2 hxr hx hxx hsn b1 b2 erd ha hD h1 h2 hjp hxB
              go_wp2
              go_roundg (np - (j + 1))
              case measure => have := T2.out; omega
              case rel => exact ⟨j + 1, v6, ⟨⟨by omega, by omega, T3.out, T4.out, by rw [HF.out, HS.out, if_neg HO.out]; exact T5.out, by rw [HF.out, HS.out, if_neg HO.out]; exact T6.out, T7.out⟩⟩, rfl, by rw [HI.out]⟩
          · have hjtz : ¬ (j : Int) < (np : Int) := by omega
            obtain rfl : j = np := by omega
            have eD : (p.take j).foldl (wAdd B p) (wRun B (s + i)) = wRun B (s + (i + 1)) := by
              rw [List.take_of_length_le (by rw [NP.out]; exact Nat.le_refl _), ← Nat.add_assoc, wRun_step HP.out]
            rw [eD] at t5 t6
            have T3 := Aside0.mk t3
            have T4 := Aside0.mk t4
            have T5 := Aside0.mk t5
            have T6 := Aside0.mk t6
            clear t2 t3 t4 t5 t6 t7 eD
            go_wp2
            go_roundg (n - (i + 1))
            case measure => have := R2.out; omega
            case rel => exact ⟨i + 1, v6, ⟨⟨by omega, by omega, T3.out, T4.out, T5.out, T6.out⟩⟩, rfl, by rw [impl_treeWays.inc hlt (by have := NB.out; have := HN.out.2; omega)]⟩
      · have hltz : ¬ (i : Int) < (n : Int) := by omega
        obtain rfl : i = n := by omega
        obtain ⟨h1, h2⟩ := HN.out
        by_cases hz : (((wRun B (s + i)).drop (s + i)).map wEnd) = []
        · have hstop : (wRun B (s + i)).length ≤ s + i := by
            have := List.map_eq_nil_iff.1 hz
            exact List.drop_eq_nil_iff.1 this
          have eW := wAll_of_stop h1 hstop
          rw [hz] at r5
          obtain ⟨A6, c6, e6⟩ := Kd.R_slice r5
          replace e6 : v6 = .slice A6 0 c6 := e6
          subst e6
          rw [eW] at r6
          have R4 := Aside0.mk r4
          have R6 := Aside0.mk r6
          clear r1 r2 r3 r4 r5 r6 hz hstop eW h1 h2
          go_wp2
          go_ret2
          exact ⟨_, ⟨_, rfl⟩, Nat.le_refl _, R6.out.reno (fun _ _ _ _ => trivial), R4.out⟩
        · obtain ⟨n6, hn6⟩ : ∃ n6, (((wRun B (s + i)).drop (s + i)).map wEnd).length = n6 := ⟨_, rfl⟩
          have hn6p : 0 < n6 := by rw [← hn6]; exact List.length_pos_iff.2 hz
          have hlen6 : ((wRun B (s + i)).drop (s + i)).length = n6 := by rw [← hn6, List.length_map]
          have hmore : s + i < (wRun B (s + i)).length := by rw [List.length_drop] at hlen6; omega
          obtain ⟨A6, c6, e6⟩ := Kd.R_slice r5
          rw [hn6] at e6
          subst e6
          have hdec : ((n6 : Int) == 0) = false := by simp; omega
          have hipos : 0 < i := by have := NL.out; have := Q1.out; omega
          have R2 := Aside0.mk r2
          have R3 := Aside0.mk r3
          have R4 := Aside0.mk r4
          have R5 := Aside0.mk r5
          have R6 := Aside0.mk r6
          have N6 := Aside0.mk hn6
          have N6p := Aside0.mk hn6p
          have L6 := Aside0.mk hlen6
          have MO := Aside0.mk hmore
          have IP := Aside0.mk hipos
          have S5 := Aside0.mk (Kd.R_mono (Kd.R_kept (Q6.out.row_ne Q4.out) r3 (fun k hk => hk.2)) (fun _ hk => hk.1))
          clear r2 r3 r4 r5 r6 hn6 hn6p hlen6 hmore hz hipos h1 h2
          go_wp2_with ((with_reducible refine gate_builtin (b := .append) (xs := #[.tmp 69, .tmp 71]) rfl ?_); at_builtin; refine Kd.R_append impl_treeWays.KS (w0 := W1) w.heap.size rfl (.tmp 69) (.tmp 71) 45 22 (.slice none 0 0) 24 rfl Try.underlying45 impl_treeWays.info22 rfl (by decide) (by omega) _ (L ++ [(A, i, c)]) (A6, n6, c6) [.slice A6 n6 c6] (fun _ => True) (fun _ => False) rfl rfl rfl (fun _ h => h.elim) (fun _ _ => trivial) S5.out (Below.refl _ _) R4.out.size (by have := Q7.out; have := SB.out; have := HN.out.2; rw [List.length_append]; simp only [List.length_cons, List.length_nil]; omega) ?_; intro v7 w7 ho hb hg hat; have HO7 := Aside0.mk ho; have HB7 := Aside0.mk hb; have HG7 := Aside0.mk hg; clear ho hb hg hat)
          go_roundg (B - (s + i))
          case measure => have := Q2.out; have := IP.out; have := SB.out; omega
          case rel =>
            have ed : ((wRun B (s + i)).drop (s + i)).length = n6 := L6.out
            refine ⟨s + i, L ++ [(A, i, c)], A6, c6, v7, ⟨⟨MO.out, Nat.le_refl _, R4.out.trans HB7.out, ?_, ?_, ?_, ?_⟩⟩, rfl⟩
            · rw [ed]; exact HO7.out
            · rw [ed]
              exact Kd.R_lower (Kd.R_mono (Kd.R_grown (Kd.R_bound R5.out) HG7.out (fun k hk e => by have := hk.2.1; have := Kd.R_lt Q4.out k e.symm; omega)) (fun _ hk => hk.1)) Q3.out.size
            · obtain ⟨inner, ho⟩ := Kd.R_own S5.out
              exact (R6.out.grown_row HG7.out (fun j hj => own_typed ho j hj) (by decide)).reno (fun _ _ _ _ => trivial)
            · have := Q7.out; have := IP.out; rw [List.length_append]; simp only [List.length_cons, List.length_nil]; omega
end



/-! ### impl_TreeChain: function 8 -/
section
open Go.Proofs.YtbjmnneaflmgaaaWT Go.Proofs.YtbjmnneaflmgaaaWM Go.Maps
def impl_TreeChain.f (n : Int) : Option (List Int × Bool) := some (if 1 ≤ n ∧ n ≤ 400 then (wTo (wAll 400) n, true) else ([], false))
set_option maxHeartbeats 1000000 in
set_option maxRecDepth 100000 in
theorem impl_TreeChain.calls (a0 : Int) (r1 : List Int) (r2 : Bool) (w : World) (h : impl_TreeChain.f a0 = some (r1, r2)) :
    Calls Try.prog 8 #[.int .i64 a0] w fun e w' => ∃ v0_ : Value, e = .returned (.tuple #[v0_, .bool r2]) ∧ Kd.R (Kd.int .i64) 3 w' w.heap.size (fun _ => True) v0_ r1 ∧ Below w.heap.size w w' := by
  by_cases hc : 1 ≤ a0 ∧ a0 ≤ 400
  · have e : (wTo (wAll 400) a0, true) = (r1, r2) := by
      have h' : some (if 1 ≤ a0 ∧ a0 ≤ 400 then (wTo (wAll 400) a0, true) else ([], false)) = some (r1, r2) := h
      rw [if_pos hc] at h'
      exact Option.some.inj h'
    injection e with e1 e2
    subst e2
    have HE := Aside0.mk e1
    have HI := Aside0.mk (show impl_in.f a0 1 400 = some true by unfold impl_in.f; rw [if_pos hc.1]; simp [hc.2])
    have HC := Aside0.mk hc
    clear h e1 hc
    go_enter Try.func8, Try.ntmps8
    go_wp2_with (first
      | (go_at_call 27; refine (impl_in.calls a0 1 400 true _ HI.out).mono ?_; rintro e w1 ⟨rfl, ⟨nd, rfl⟩⟩)
      | (go_at_call 28; refine (impl_treeWays.calls 400 (by omega) (by omega) _).mono ?_; rintro e w2 ⟨M, v5, rfl, hM, hW, hB⟩; obtain ⟨v15, hrun, hR, _⟩ := hW.look impl_treeWays.law Try.underlying3 Try.underlying44 (impl_treeWays.zero w2) (wRun_ok (B := 400) (by omega) _).one (wRun_ok (B := 400) (by omega) _).ne a0 (impl_treeWays.wf (by have := HC.out; omega) (by have := HC.out; omega)); have HR := Aside0.mk (Kd.R_lower hR (Nat.le_succ_of_le hM)); have HB := Aside0.mk hB; clear hM hW hB hR)
      | ((with_reducible refine gate_dst (N := 15) rfl ?_); refine wp_lookup_run rfl _ _ 44 rfl rfl rfl hrun ?_))
    go_ret2
    exact ⟨_, rfl, by rw [← HE.out]; exact HR.out, below_step (pw_below_drewN (Below.refl _ _) nd) HB.out⟩
  · have e : (([] : List Int), false) = (r1, r2) := by
      have h' : some (if 1 ≤ a0 ∧ a0 ≤ 400 then (wTo (wAll 400) a0, true) else ([], false)) = some (r1, r2) := h
      rw [if_neg hc] at h'
      exact Option.some.inj h'
    injection e with e1 e2
    subst e1 e2
    have HI := Aside0.mk (show impl_in.f a0 1 400 = some false by unfold impl_in.f; split <;> simp <;> omega)
    clear h hc
    go_enter Try.func8, Try.ntmps8
    go_wp2_with (go_at_call 27; refine (impl_in.calls a0 1 400 false _ HI.out).mono ?_; rintro e w1 ⟨rfl, ⟨nd, rfl⟩⟩)
    go_ret2
    exact ⟨_, rfl, Kd.R_nil _ _ _ _ _, pw_below_drewN (Below.refl _ _) nd⟩
end


/-! ### laws_big: function 14 -/
def laws_big.f (l0 : List Int) (l1 : List Int) : Option (Bool) := if (l0.length : Int) > 1048576 then (some true) else (some (decide ((l1.length : Int) > (wrap64 (1048576 - (l0.length : Int))))))
set_option maxHeartbeats 8000000 in
set_option maxRecDepth 100000 in
theorem laws_big.calls (A0 : Option Addr) (c0 : Nat) (l0 : List Int) (A1 : Option Addr) (c1 : Nat) (l1 : List Int) (r : Bool) (w : World) (hr0 : Kd.C (Kd.int .u8) w A0 l0.length l0) (hc0 : l0.length ≤ c0) (hr1 : Kd.C (Kd.int .u8) w A1 l1.length l1) (hc1 : l1.length ≤ c1) (h : laws_big.f l0 l1 = some r) :
    Calls Try.prog 14 #[.slice A0 l0.length c0, .slice A1 l1.length c1] w fun e w' => e = .returned (.bool r) ∧ Drawn0 w w' := by
  have HR0 := Aside0.mk hr0
  have HC0 := Aside0.mk hc0
  clear hr0 hc0
  have HR1 := Aside0.mk hr1
  have HC1 := Aside0.mk hc1
  clear hr1 hc1
  have H : (if (l0.length : Int) > 1048576 then (some true) else (some (decide ((l1.length : Int) > (wrap64 (1048576 - (l0.length : Int))))))) = some r := h
  clear h
  by_cases c3 : (l0.length : Int) > 1048576
  · rw [if_pos c3] at H
    have c3b0 : decide (1048576 < (l0.length : Int)) = true := decide_eq_true c3
    have c3b1 : decide (1048576 < l0.length) = true := decide_eq_true (by omega)
    clear c3
    obtain rfl := Option.some.inj H
    go_enter Try.func14, Try.ntmps14
    go_wp2
    go_ret
    exact ⟨by first | rfl | (simp; done) | (simp [*]; done), by repeat (first | exact Drawn0.refl _ | apply Drawn0.step)⟩
  · rw [if_neg c3] at H
    have c3b0 : decide (1048576 < (l0.length : Int)) = false := decide_eq_false c3
    have c3b1 : decide (1048576 < l0.length) = false := decide_eq_false (by omega)
    clear c3
    obtain rfl := Option.some.inj H
    go_enter Try.func14, Try.ntmps14
    go_wp2
    go_ret
    exact ⟨by first | rfl | (simp; done) | (simp [*]; done), by repeat (first | exact Drawn0.refl _ | apply Drawn0.step)⟩

/-- A state of type 51 at block g of W; what its slices lead to came in by w0. -/
def IsS51 (w0 W : World) (g : Nat) (f0 : List Int) (f1 : Int) (f2 : Int) : Prop := ∃ A0 c0, W.heap[g]? = some (.cells #[.slice A0 f0.length c0, .int .i64 f1, .int .u64 f2] 51 (0, 0)) ∧ w0.heap.size ≤ g ∧ Kd.C (Kd.int .u8) w0 A0 f0.length f0
theorem IsS51.grown {w0 W : World} {g : Nat} {f0 : List Int} {f1 : Int} {f2 : Int} {W1 : World} {row : Option Nat} (h : IsS51 w0 W g f0 f1 f2) (hw : W.grownBy W1 row) (hne : some g ≠ row) : IsS51 w0 W1 g f0 f1 f2 := by
  obtain ⟨A0, c0, hb, hg, hr0⟩ := h
  exact ⟨A0, c0, blk_grown hb hw hne, hg, hr0⟩
theorem IsS51.own_neN {w0 W : World} {g : Nat} {f0 : List Int} {f1 : Int} {f2 : Int} {α : Type} {d : Kd α} {e : Nat} {base : Nat} {ok : Nat → Prop} {v : Value} {xs : List α} (h : IsS51 w0 W g f0 f1 f2) (ho : Kd.N d e W base ok v xs) (ht : e ≠ 51) : some g ≠ v.ownBlock := by
  obtain ⟨A0, c0, hb, hg, hr0⟩ := h
  exact Kd.N_ne ho hb ht
theorem IsS51.fresh {w0 W : World} {g : Nat} {f0 : List Int} {f1 : Int} {f2 : Int} (h : IsS51 w0 W g f0 f1 f2) : ∀ k, W.heap.size ≤ k → k ≠ g := by
  obtain ⟨A0, c0, hb, hg, hr0⟩ := h
  exact Kd.freshB hb
theorem IsS51.kept {w0 W : World} {g : Nat} {f0 : List Int} {f1 : Int} {f2 : Int} {W1 : World} {S : Nat → Prop} (h : IsS51 w0 W g f0 f1 f2) (hk : Kept W W1 S) (hne : ¬ S g) : IsS51 w0 W1 g f0 f1 f2 := by
  obtain ⟨A0, c0, hb, hg, hr0⟩ := h
  exact ⟨A0, c0, blk_kept hb hk hne, hg, hr0⟩
theorem IsS51.below {w0 W : World} {g : Nat} {f0 : List Int} {f1 : Int} {f2 : Int} {W1 : World} (h : IsS51 w0 W g f0 f1 f2) (hw : Below W.heap.size W W1) : IsS51 w0 W1 g f0 f1 f2 := h.grown (grown_of_below hw none) (by simp)
theorem IsS51.alloc {w0 W : World} {g : Nat} {f0 : List Int} {f1 : Int} {f2 : Int} (h : IsS51 w0 W g f0 f1 f2) (o : Obj) : IsS51 w0 (W.alloc o) g f0 f1 f2 := h.below (below_alloc (Below.refl _ _) o)
theorem IsS51.drewN {w0 W : World} {g : Nat} {f0 : List Int} {f1 : Int} {f2 : Int} (h : IsS51 w0 W g f0 f1 f2) (m : Nat) : IsS51 w0 (W.drewN m) g f0 f1 f2 := h
theorem IsS51.drew {w0 W : World} {g : Nat} {f0 : List Int} {f1 : Int} {f2 : Int} (h : IsS51 w0 W g f0 f1 f2) : IsS51 w0 W.drew g f0 f1 f2 := h
theorem IsS51.at_ {w0 W : World} {g : Nat} {f0 : List Int} {f1 : Int} {f2 : Int} {w' : World} {m : Nat} (hq : W.drewN m = w') (h : IsS51 w0 W g f0 f1 f2) : IsS51 w0 w' g f0 f1 f2 := by subst hq; exact IsS51.drewN h m
theorem IsS51.apart {w0 W : World} {g : Nat} {f0 : List Int} {f1 : Int} {f2 : Int} {α : Type} {d : Kd α} {e : Nat} {base : Nat} {ok : Nat → Prop} {v : Value} {xs : List α} (h : IsS51 w0 W g f0 f1 f2) (ho : d.R e W base ok v xs) (ht : ∀ q, q ∈ e :: d.E → q ≠ 51) : d.R e W base (fun k => ok k ∧ k ≠ g) v xs := by
  obtain ⟨A0, c0, hb, hg, hr0⟩ := h
  exact Kd.R_types ho hb ht
theorem IsS51.own_ne {w0 W : World} {g : Nat} {f0 : List Int} {f1 : Int} {f2 : Int} {α : Type} {d : Kd α} {e : Nat} {base : Nat} {ok : Nat → Prop} {v : Value} {xs : List α} (h : IsS51 w0 W g f0 f1 f2) (ho : d.R e W base ok v xs) (ht : e ≠ 51) : some g ≠ v.ownBlock := by
  obtain ⟨A0, c0, hb, hg, hr0⟩ := h
  exact Kd.R_ne ho hb ht
theorem IsS51.apartQ {w0 W : World} {g : Nat} {f0 : List Int} {f1 : Int} {f2 : Int} {α : Type} {d : Kd α} {e : Nat} {base : Nat} {ok : Nat → Prop} {v : Value} {xs : List α} (h : IsS51 w0 W g f0 f1 f2) (ho : d.Q e W base ok v xs) (ht : ∀ q, q ∈ e :: d.E → q ≠ 51) : d.Q e W base (fun k => ok k ∧ k ≠ g) v xs := by
  obtain ⟨A0, c0, hb, hg, hr0⟩ := h
  exact Kd.Q_types ho hb ht
theorem IsS51.own_neQ {w0 W : World} {g : Nat} {f0 : List Int} {f1 : Int} {f2 : Int} {α : Type} {d : Kd α} {e : Nat} {base : Nat} {ok : Nat → Prop} {v : Value} {xs : List α} (h : IsS51 w0 W g f0 f1 f2) (ho : d.Q e W base ok v xs) (ht : e ≠ 51) : some g ≠ v.ownBlock := by
  obtain ⟨A0, c0, hb, hg, hr0⟩ := h
  exact Kd.Q_ne ho hb ht
theorem IsS51.apartS {w0 W : World} {g : Nat} {f0 : List Int} {f1 : Int} {f2 : Int} {α : Type} {d : Kd α} {e : Nat} {base : Nat} {ok : Nat → Prop} {v : Value} {xs : List α} (h : IsS51 w0 W g f0 f1 f2) (ho : d.S e W base ok v xs) (ht : ∀ q, q ∈ e :: d.E → q ≠ 51) : d.S e W base (fun k => ok k ∧ k ≠ g) v xs := by
  obtain ⟨A0, c0, hb, hg, hr0⟩ := h
  exact Kd.S_types ho hb ht
theorem IsS51.own_neS {w0 W : World} {g : Nat} {f0 : List Int} {f1 : Int} {f2 : Int} {α : Type} {d : Kd α} {e : Nat} {base : Nat} {ok : Nat → Prop} {v : Value} {xs : List α} (h : IsS51 w0 W g f0 f1 f2) (ho : d.S e W base ok v xs) (ht : e ≠ 51) : some g ≠ v.ownBlock := by
  obtain ⟨A0, c0, hb, hg, hr0⟩ := h
  exact Kd.S_ne ho hb ht
theorem IsS51.lt {w0 W : World} {g : Nat} {f0 : List Int} {f1 : Int} {f2 : Int} (h : IsS51 w0 W g f0 f1 f2) : g < W.heap.size := by
  obtain ⟨A0, c0, hb, hg, hr0⟩ := h
  exact blk_lt hb
theorem IsS51.ge {w0 W : World} {g : Nat} {f0 : List Int} {f1 : Int} {f2 : Int} (h : IsS51 w0 W g f0 f1 f2) : w0.heap.size ≤ g := by
  obtain ⟨A0, c0, hb, hg, hr0⟩ := h
  exact hg
theorem IsS51.ne_blk {w0 W : World} {g : Nat} {f0 : List Int} {f1 : Int} {f2 : Int} {a : Nat} {cs : Array Value} {t : TypeId} {fr : Nat × Nat} (h : IsS51 w0 W g f0 f1 f2) (hb2 : W.heap[a]? = some (.cells cs t fr)) (ht : t ≠ 51) : g ≠ a := by
  obtain ⟨A0, c0, hb, hg, hr0⟩ := h
  rintro rfl
  rw [hb] at hb2
  injection hb2 with hb2
  injection hb2 with _ ht2
  exact ht ht2.symm
theorem IsS51.far {w0 W : World} {g : Nat} {f0 : List Int} {f1 : Int} {f2 : Int} {p : Addr} (h : IsS51 w0 W g f0 f1 f2) (hne : g ≠ p.block) (u : Value) : IsS51 w0 (W.setCell p u) g f0 f1 f2 := by
  obtain ⟨A0, c0, hb, hg, hr0⟩ := h
  exact ⟨A0, c0, blk_far hb hne u, hg, hr0⟩
theorem cellS51_0 {W : World} {g : Nat} {A0 : Option Addr} {c0 : Nat} {f0 : List Int} {f1 : Int} {f2 : Int} (h : W.heap[g]? = some (.cells #[.slice A0 f0.length c0, .int .i64 f1, .int .u64 f2] 51 (0, 0))) : W.cell? ⟨g, 0, none⟩ = some (.slice A0 f0.length c0) := (blk_cell h 0).trans rfl
theorem cellS51_1 {W : World} {g : Nat} {A0 : Option Addr} {c0 : Nat} {f0 : List Int} {f1 : Int} {f2 : Int} (h : W.heap[g]? = some (.cells #[.slice A0 f0.length c0, .int .i64 f1, .int .u64 f2] 51 (0, 0))) : W.cell? ⟨g, 1, none⟩ = some (.int .i64 f1) := (blk_cell h 1).trans rfl
theorem IsS51.set_1 {w0 W : World} {g : Nat} {f0 : List Int} {f1 : Int} {f2 : Int} (h : IsS51 w0 W g f0 f1 f2) (x : Int) : IsS51 w0 (W.setCell ⟨g, 1, none⟩ (.int .i64 x)) g f0 x f2 := by
  obtain ⟨A0, c0, hb, hg, hr0⟩ := h
  exact ⟨A0, c0, by simpa using blk_set hb 1 (.int .i64 x), hg, hr0⟩
theorem cellS51_2 {W : World} {g : Nat} {A0 : Option Addr} {c0 : Nat} {f0 : List Int} {f1 : Int} {f2 : Int} (h : W.heap[g]? = some (.cells #[.slice A0 f0.length c0, .int .i64 f1, .int .u64 f2] 51 (0, 0))) : W.cell? ⟨g, 2, none⟩ = some (.int .u64 f2) := (blk_cell h 2).trans rfl
theorem IsS51.set_2 {w0 W : World} {g : Nat} {f0 : List Int} {f1 : Int} {f2 : Int} (h : IsS51 w0 W g f0 f1 f2) (x : Int) : IsS51 w0 (W.setCell ⟨g, 2, none⟩ (.int .u64 x)) g f0 f1 x := by
  obtain ⟨A0, c0, hb, hg, hr0⟩ := h
  exact ⟨A0, c0, by simpa using blk_set hb 2 (.int .u64 x), hg, hr0⟩
theorem IsS51.new (w0 W : World) (A0 : Option Addr) (c0 : Nat) (f0 : List Int) (f1 : Int) (f2 : Int) (hB : Below w0.heap.size w0 W) (hr0 : Kd.C (Kd.int .u8) w0 A0 f0.length f0) : IsS51 w0 (W.alloc (.cells #[.slice A0 f0.length c0, .int .i64 f1, .int .u64 f2] 51)) W.heap.size f0 f1 f2 := ⟨A0, c0, by simpa using heap_alloc_new W _, hB.size, hr0⟩

/-! ### spec_l1Cur_next: function 54 -/
def spec_l1Cur_next.f (s0_0 : List Int) (s0_1 : Int) (s0_2 : Int) : Option (Int × Int × Int) := if s0_1 < (s0_0.length : Int) then (if 0 ≤ s0_1 then (if (wrap64 (s0_1 + 1)) ≤ (s0_0.length : Int) then (some (wrap64 (rd s0_0 s0_1), wrap64 (s0_1 + 1), IntKind.u64.wrap ((IntKind.u64.wrap ((IntKind.u64.wrap (s0_2 * 6364136223846793005)) + (IntKind.u64.wrap (wrap64 (rd s0_0 s0_1))))) + 1442695040888963407))) else (some (wrap64 (Go.bits .and .u64 ((IntKind.u64.wrap ((IntKind.u64.wrap ((IntKind.u64.wrap (s0_2 * 6364136223846793005)) + (IntKind.u64.wrap (wrap64 (rd s0_0 s0_1))))) + 1442695040888963407)) / 1099511627776) 255), wrap64 (s0_1 + 1), IntKind.u64.wrap ((IntKind.u64.wrap ((IntKind.u64.wrap (s0_2 * 6364136223846793005)) + (IntKind.u64.wrap (wrap64 (rd s0_0 s0_1))))) + 1442695040888963407)))) else (none)) else (if (wrap64 (s0_1 + 1)) ≤ (s0_0.length : Int) then (some (0, wrap64 (s0_1 + 1), IntKind.u64.wrap ((IntKind.u64.wrap ((IntKind.u64.wrap (s0_2 * 6364136223846793005)))) + 1442695040888963407))) else (some (wrap64 (Go.bits .and .u64 ((IntKind.u64.wrap ((IntKind.u64.wrap ((IntKind.u64.wrap (s0_2 * 6364136223846793005)))) + 1442695040888963407)) / 1099511627776) 255), wrap64 (s0_1 + 1), IntKind.u64.wrap ((IntKind.u64.wrap ((IntKind.u64.wrap (s0_2 * 6364136223846793005)))) + 1442695040888963407))))
set_option maxHeartbeats 8000000 in
set_option maxRecDepth 100000 in
theorem spec_l1Cur_next.calls (g : Nat) (s0_0 : List Int) (s0_1 : Int) (s0_2 : Int) (r1 : Int) (r2 : Int) (r3 : Int) (w0 w : World) (hI : IsS51 w0 w g s0_0 s0_1 s0_2) (hB : Below w0.heap.size w0 w) (h : spec_l1Cur_next.f s0_0 s0_1 s0_2 = some (r1, r2, r3)) :
    Calls Try.prog 54 #[.pointer (some ⟨g, 0, none⟩)] w fun e w' => e = .returned (.int .i64 r1) ∧ IsS51 w0 w' g s0_0 r2 r3 ∧ Below w0.heap.size w0 w' ∧ KeepBut w w' g none := by
  have HI0 := Aside0.mk hI
  have HK := Aside0.mk (KeepBut.refl w g none)
  have HL := Aside0.mk hB.size
  clear hI
  have HW0 := Aside0.mk hB.size
  have HB := Aside0.mk hB
  clear hB
  have H : (if s0_1 < (s0_0.length : Int) then (if 0 ≤ s0_1 then (if (wrap64 (s0_1 + 1)) ≤ (s0_0.length : Int) then (some (wrap64 (rd s0_0 s0_1), wrap64 (s0_1 + 1), IntKind.u64.wrap ((IntKind.u64.wrap ((IntKind.u64.wrap (s0_2 * 6364136223846793005)) + (IntKind.u64.wrap (wrap64 (rd s0_0 s0_1))))) + 1442695040888963407))) else (some (wrap64 (Go.bits .and .u64 ((IntKind.u64.wrap ((IntKind.u64.wrap ((IntKind.u64.wrap (s0_2 * 6364136223846793005)) + (IntKind.u64.wrap (wrap64 (rd s0_0 s0_1))))) + 1442695040888963407)) / 1099511627776) 255), wrap64 (s0_1 + 1), IntKind.u64.wrap ((IntKind.u64.wrap ((IntKind.u64.wrap (s0_2 * 6364136223846793005)) + (IntKind.u64.wrap (wrap64 (rd s0_0 s0_1))))) + 1442695040888963407)))) else (none)) else (if (wrap64 (s0_1 + 1)) ≤ (s0_0.length : Int) then (some (0, wrap64 (s0_1 + 1), IntKind.u64.wrap ((IntKind.u64.wrap ((IntKind.u64.wrap (s0_2 * 6364136223846793005)))) + 1442695040888963407))) else (some (wrap64 (Go.bits .and .u64 ((IntKind.u64.wrap ((IntKind.u64.wrap ((IntKind.u64.wrap (s0_2 * 6364136223846793005)))) + 1442695040888963407)) / 1099511627776) 255), wrap64 (s0_1 + 1), IntKind.u64.wrap ((IntKind.u64.wrap ((IntKind.u64.wrap (s0_2 * 6364136223846793005)))) + 1442695040888963407))))) = some (r1, r2, r3) := h
  clear h
  by_cases c2 : s0_1 < (s0_0.length : Int)
  · rw [if_pos c2] at H
    have c2b0 : decide (s0_1 < (s0_0.length : Int)) = true := decide_eq_true c2
    clear c2
    by_cases c3 : 0 ≤ s0_1
    · rw [if_pos c3] at H
      have c3b0 : decide (0 ≤ s0_1) = true := decide_eq_true c3
      clear c3
      by_cases c4 : (wrap64 (s0_1 + 1)) ≤ (s0_0.length : Int)
      · rw [if_pos c4] at H
        have c4b0 : decide ((wrap64 (s0_1 + 1)) ≤ (s0_0.length : Int)) = true := decide_eq_true c4
        clear c4
        simp only [Option.some.injEq, Prod.mk.injEq] at H
        obtain ⟨rfl, rfl, rfl⟩ := H
        obtain ⟨ASz5_0, cSz5_0, HGz5, hgz5, HSz5_0⟩ := HI0.out
        have hcz5_0 := cellS51_0 HGz5
        have hcz5_1 := cellS51_1 HGz5
        have hcz5_2 := cellS51_2 HGz5
        have hfz5_1 := blk_frozen HGz5 1
        have hfz5_2 := blk_frozen HGz5 2
        clear HGz5 hgz5
        have p132 : 0 ≤ (s0_1 : Int) := of_decide_eq_true (by first | (with_reducible assumption) | assumption)
        have q132 : s0_1 < (s0_0.length : Int) := of_decide_eq_true (by first | (with_reducible assumption) | assumption)
        obtain ⟨ad132, e132, hx132_0⟩ := Kd.at_int HSz5_0 s0_1 p132 q132
        cases e132
        replace hx132_0 := pw_cell_below HB.out hx132_0
        replace p132 := eq_true p132
        replace q132 := eq_true q132
        go_enter Try.func54, Try.ntmps54
        go_wp2
        repeat (go_quiet (fail); try go_wp2)
        go_ret
        exact ⟨by first | rfl | (simp [errW_none, errW_some] <;> rfl) | (simp [*, errW_none, errW_some] <;> rfl), by repeat (first | (with_reducible first | exact HI0.out | apply IsS51.alloc | apply IsS51.drewN | apply IsS51.drew | apply IsS51.set_1 | apply IsS51.set_2) | exact HI0.out), by repeat (first | (with_reducible first | exact HB.out | apply below_alloc | apply pw_below_drewN | apply below_drew1 | refine below_set ?_ (IsS51.ge HI0.out)) | exact HB.out), by repeat (first | (with_reducible first | exact HK.out | apply KeepBut.set_ | apply keep_drewN | apply keep_drew | apply keep_alloc) | exact HK.out)⟩
      · rw [if_neg c4] at H
        have c4b0 : decide ((wrap64 (s0_1 + 1)) ≤ (s0_0.length : Int)) = false := decide_eq_false c4
        clear c4
        simp only [Option.some.injEq, Prod.mk.injEq] at H
        obtain ⟨rfl, rfl, rfl⟩ := H
        obtain ⟨ASz6_0, cSz6_0, HGz6, hgz6, HSz6_0⟩ := HI0.out
        have hcz6_0 := cellS51_0 HGz6
        have hcz6_1 := cellS51_1 HGz6
        have hcz6_2 := cellS51_2 HGz6
        have hfz6_1 := blk_frozen HGz6 1
        have hfz6_2 := blk_frozen HGz6 2
        clear HGz6 hgz6
        (try (have p132yz5 : 0 ≤ (s0_1 : Int) := of_decide_eq_true (by first | (with_reducible assumption) | assumption); have q132yz5 : s0_1 < (s0_0.length : Int) := of_decide_eq_true (by first | (with_reducible assumption) | assumption); obtain ⟨ad132yz5, e132yz5, hx132yz5_0⟩ := Kd.at_int HSz5_0 s0_1 p132yz5 q132yz5; cases e132yz5; replace hx132yz5_0 := pw_cell_below HB.out hx132yz5_0; clear p132yz5 q132yz5))
        have p132 : 0 ≤ (s0_1 : Int) := of_decide_eq_true (by first | (with_reducible assumption) | assumption)
        have q132 : s0_1 < (s0_0.length : Int) := of_decide_eq_true (by first | (with_reducible assumption) | assumption)
        obtain ⟨ad132, e132, hx132_0⟩ := Kd.at_int HSz6_0 s0_1 p132 q132
        cases e132
        replace hx132_0 := pw_cell_below HB.out hx132_0
        replace p132 := eq_true p132
        replace q132 := eq_true q132
        go_enter Try.func54, Try.ntmps54
        go_wp2
        repeat (go_quiet (fail); try go_wp2)
        go_ret
        exact ⟨by first | rfl | (simp [errW_none, errW_some] <;> rfl) | (simp [*, errW_none, errW_some] <;> rfl), by repeat (first | (with_reducible first | exact HI0.out | apply IsS51.alloc | apply IsS51.drewN | apply IsS51.drew | apply IsS51.set_1 | apply IsS51.set_2) | exact HI0.out), by repeat (first | (with_reducible first | exact HB.out | apply below_alloc | apply pw_below_drewN | apply below_drew1 | refine below_set ?_ (IsS51.ge HI0.out)) | exact HB.out), by repeat (first | (with_reducible first | exact HK.out | apply KeepBut.set_ | apply keep_drewN | apply keep_drew | apply keep_alloc) | exact HK.out)⟩
    · rw [if_neg c3] at H
      exact absurd H (by simp)
  · rw [if_neg c2] at H
    have c2b0 : decide (s0_1 < (s0_0.length : Int)) = false := decide_eq_false c2
    clear c2
    by_cases c7 : (wrap64 (s0_1 + 1)) ≤ (s0_0.length : Int)
    · rw [if_pos c7] at H
      have c7b0 : decide ((wrap64 (s0_1 + 1)) ≤ (s0_0.length : Int)) = true := decide_eq_true c7
      clear c7
      simp only [Option.some.injEq, Prod.mk.injEq] at H
      obtain ⟨rfl, rfl, rfl⟩ := H
      obtain ⟨ASz8_0, cSz8_0, HGz8, hgz8, HSz8_0⟩ := HI0.out
      have hcz8_0 := cellS51_0 HGz8
      have hcz8_1 := cellS51_1 HGz8
      have hcz8_2 := cellS51_2 HGz8
      have hfz8_1 := blk_frozen HGz8 1
      have hfz8_2 := blk_frozen HGz8 2
      clear HGz8 hgz8
      go_enter Try.func54, Try.ntmps54
      go_wp2
      repeat (go_quiet (fail); try go_wp2)
      go_ret
      exact ⟨by first | rfl | (simp [errW_none, errW_some] <;> rfl) | (simp [*, errW_none, errW_some] <;> rfl), by repeat (first | (with_reducible first | exact HI0.out | apply IsS51.alloc | apply IsS51.drewN | apply IsS51.drew | apply IsS51.set_1 | apply IsS51.set_2) | exact HI0.out), by repeat (first | (with_reducible first | exact HB.out | apply below_alloc | apply pw_below_drewN | apply below_drew1 | refine below_set ?_ (IsS51.ge HI0.out)) | exact HB.out), by repeat (first | (with_reducible first | exact HK.out | apply KeepBut.set_ | apply keep_drewN | apply keep_drew | apply keep_alloc) | exact HK.out)⟩
    · rw [if_neg c7] at H
      have c7b0 : decide ((wrap64 (s0_1 + 1)) ≤ (s0_0.length : Int)) = false := decide_eq_false c7
      clear c7
      simp only [Option.some.injEq, Prod.mk.injEq] at H
      obtain ⟨rfl, rfl, rfl⟩ := H
      obtain ⟨ASz9_0, cSz9_0, HGz9, hgz9, HSz9_0⟩ := HI0.out
      have hcz9_0 := cellS51_0 HGz9
      have hcz9_1 := cellS51_1 HGz9
      have hcz9_2 := cellS51_2 HGz9
      have hfz9_1 := blk_frozen HGz9 1
      have hfz9_2 := blk_frozen HGz9 2
      clear HGz9 hgz9
      go_enter Try.func54, Try.ntmps54
      go_wp2
      repeat (go_quiet (fail); try go_wp2)
      go_ret
      exact ⟨by first | rfl | (simp [errW_none, errW_some] <;> rfl) | (simp [*, errW_none, errW_some] <;> rfl), by repeat (first | (with_reducible first | exact HI0.out | apply IsS51.alloc | apply IsS51.drewN | apply IsS51.drew | apply IsS51.set_1 | apply IsS51.set_2) | exact HI0.out), by repeat (first | (with_reducible first | exact HB.out | apply below_alloc | apply pw_below_drewN | apply below_drew1 | refine below_set ?_ (IsS51.ge HI0.out)) | exact HB.out), by repeat (first | (with_reducible first | exact HK.out | apply KeepBut.set_ | apply keep_drewN | apply keep_drew | apply keep_alloc) | exact HK.out)⟩

/-! ### spec_l1Cur_pick: function 34 -/
def spec_l1Cur_pick.f (s0_0 : List Int) (s0_1 : Int) (s0_2 : Int) (a1 : Int) : Option (Int × Int × Int) := if a1 ≤ 1 then (some (0, s0_1, s0_2)) else ((spec_l1Cur_next.f s0_0 s0_1 s0_2).bind fun bt133 => (if a1 > 200 then ((spec_l1Cur_next.f s0_0 bt133.2.1 bt133.2.2).bind fun bt136 => (if a1 = 0 then (none) else (some (Int.tmod (wrap64 ((wrap64 (bt133.1 * 256)) + bt136.1)) a1, bt136.2.1, bt136.2.2)))) else (if a1 = 0 then (none) else (some (Int.tmod bt133.1 a1, bt133.2.1, bt133.2.2)))))
set_option maxHeartbeats 8000000 in
set_option maxRecDepth 100000 in
theorem spec_l1Cur_pick.calls (g : Nat) (s0_0 : List Int) (s0_1 : Int) (s0_2 : Int) (a1 : Int) (r1 : Int) (r2 : Int) (r3 : Int) (w0 w : World) (hI : IsS51 w0 w g s0_0 s0_1 s0_2) (hB : Below w0.heap.size w0 w) (h : spec_l1Cur_pick.f s0_0 s0_1 s0_2 a1 = some (r1, r2, r3)) :
    Calls Try.prog 34 #[.pointer (some ⟨g, 0, none⟩), .int .i64 a1] w fun e w' => e = .returned (.int .i64 r1) ∧ IsS51 w0 w' g s0_0 r2 r3 ∧ Below w0.heap.size w0 w' ∧ KeepBut w w' g none := by
  have HI0 := Aside0.mk hI
  have HK := Aside0.mk (KeepBut.refl w g none)
  have HL := Aside0.mk hB.size
  clear hI
  have HW0 := Aside0.mk hB.size
  have HB := Aside0.mk hB
  clear hB
  have H : (if a1 ≤ 1 then (some (0, s0_1, s0_2)) else ((spec_l1Cur_next.f s0_0 s0_1 s0_2).bind fun bt133 => (if a1 > 200 then ((spec_l1Cur_next.f s0_0 bt133.2.1 bt133.2.2).bind fun bt136 => (if a1 = 0 then (none) else (some (Int.tmod (wrap64 ((wrap64 (bt133.1 * 256)) + bt136.1)) a1, bt136.2.1, bt136.2.2)))) else (if a1 = 0 then (none) else (some (Int.tmod bt133.1 a1, bt133.2.1, bt133.2.2)))))) = some (r1, r2, r3) := h
  clear h
  by_cases c3 : a1 ≤ 1
  · rw [if_pos c3] at H
    have c3b0 : decide (a1 ≤ 1) = true := decide_eq_true c3
    clear c3
    simp only [Option.some.injEq, Prod.mk.injEq] at H
    obtain ⟨rfl, rfl, rfl⟩ := H
    go_enter Try.func34, Try.ntmps34
    go_wp2
    go_ret
    exact ⟨by first | rfl | (simp [errW_none, errW_some] <;> rfl) | (simp [*, errW_none, errW_some] <;> rfl), by repeat (first | (with_reducible first | exact HI0.out | apply IsS51.alloc | apply IsS51.drewN | apply IsS51.drew | apply IsS51.set_1 | apply IsS51.set_2) | exact HI0.out), by repeat (first | (with_reducible first | exact HB.out | apply below_alloc | apply pw_below_drewN | apply below_drew1 | refine below_set ?_ (IsS51.ge HI0.out)) | exact HB.out), by repeat (first | (with_reducible first | exact HK.out | apply KeepBut.set_ | apply keep_drewN | apply keep_drew | apply keep_alloc) | exact HK.out)⟩
  · rw [if_neg c3] at H
    have c3b0 : decide (a1 ≤ 1) = false := decide_eq_false c3
    clear c3
    replace H := Option.bind_eq_some_iff.mp H
    obtain ⟨⟨t133, t134, t135⟩, A40, H⟩ := H
    replace H : (if a1 > 200 then ((spec_l1Cur_next.f s0_0 t134 t135).bind fun bt136 => (if a1 = 0 then (none) else (some (Int.tmod (wrap64 ((wrap64 (t133 * 256)) + bt136.1)) a1, bt136.2.1, bt136.2.2)))) else (if a1 = 0 then (none) else (some (Int.tmod t133 a1, t134, t135)))) = some (r1, r2, r3) := H
    have A4 := Aside0.mk A40
    clear A40
    by_cases c5 : a1 > 200
    · rw [if_pos c5] at H
      have c5b0 : decide (200 < a1) = true := decide_eq_true c5
      clear c5
      replace H := Option.bind_eq_some_iff.mp H
      obtain ⟨⟨t136, t137, t138⟩, A60, H⟩ := H
      replace H : (if a1 = 0 then (none) else (some (Int.tmod (wrap64 ((wrap64 (t133 * 256)) + t136)) a1, t137, t138))) = some (r1, r2, r3) := H
      have A6 := Aside0.mk A60
      clear A60
      by_cases c7 : a1 = 0
      · rw [if_pos c7] at H
        exact absurd H (by simp)
      · rw [if_neg c7] at H
        have c7b0 : (a1 == 0) = false := beq_eq_false_iff_ne.mpr c7
        have c7b1 : (a1 != 0) = true := bne_iff_ne.mpr c7
        simp only [Option.some.injEq, Prod.mk.injEq] at H
        obtain ⟨rfl, rfl, rfl⟩ := H
        go_enter Try.func34, Try.ntmps34
        go_wp2_with (first | ((with_reducible refine gate_callee (f := 54) rfl ?_); refine goesL_ (some 9) rfl rfl Try.func54 (by kernel_rfl) rfl #[.pointer (some ⟨g, 0, none⟩)] rfl (by (try simp only [List.map_toArray, List.map_cons, List.map_nil]); first | done | rfl | (simp only [List.length_drop, List.length_take]; rfl)) ?_; (with_reducible refine (spec_l1Cur_next.calls g s0_0 s0_1 s0_2 t133 t134 t135 w0 _ ?side1 ?side2 A4.out).mono ?_); (case side1 => repeat (first | (with_reducible first | exact HI0.out | apply IsS51.alloc | apply IsS51.drewN | apply IsS51.drew | apply IsS51.set_1 | apply IsS51.set_2) | exact HI0.out)); (case side2 => repeat (first | (with_reducible first | exact HB.out | apply below_alloc | apply pw_below_drewN | apply below_drew1 | refine below_set ?_ (IsS51.ge HI0.out)) | exact HB.out)); rintro e w8 ⟨rfl, hi, hb, hk⟩; refine ⟨_, rfl, ?_⟩; have n0_ := Aside0.mk (KeepBut.trans (by repeat (first | (with_reducible first | exact HK.out | apply KeepBut.set_ | apply keep_drewN | apply keep_drew | apply keep_alloc) | exact HK.out)) hk (.inl rfl)); have n1_ := Aside0.mk (hb); have n2_ := Aside0.mk (hi); clear HK; clear HB; clear HI0; have HK := n0_; have HB := n1_; have HI0 := n2_; clear n0_ n1_ n2_; (try clear hb); (try clear hb2); (try clear hk); (try clear hi)) | ((with_reducible refine gate_callee (f := 54) rfl ?_); refine goesL_ (some 15) rfl rfl Try.func54 (by kernel_rfl) rfl #[.pointer (some ⟨g, 0, none⟩)] rfl (by (try simp only [List.map_toArray, List.map_cons, List.map_nil]); first | done | rfl | (simp only [List.length_drop, List.length_take]; rfl)) ?_; (with_reducible refine (spec_l1Cur_next.calls g s0_0 t134 t135 t136 t137 t138 w0 _ ?side1 ?side2 A6.out).mono ?_); (case side1 => repeat (first | (with_reducible first | exact HI0.out | apply IsS51.alloc | apply IsS51.drewN | apply IsS51.drew | apply IsS51.set_1 | apply IsS51.set_2) | exact HI0.out)); (case side2 => repeat (first | (with_reducible first | exact HB.out | apply below_alloc | apply pw_below_drewN | apply below_drew1 | refine below_set ?_ (IsS51.ge HI0.out)) | exact HB.out)); rintro e w9 ⟨rfl, hi, hb, hk⟩; refine ⟨_, rfl, ?_⟩; have n0_ := Aside0.mk (KeepBut.trans (by repeat (first | (with_reducible first | exact HK.out | apply KeepBut.set_ | apply keep_drewN | apply keep_drew | apply keep_alloc) | exact HK.out)) hk (.inl rfl)); have n1_ := Aside0.mk (hb); have n2_ := Aside0.mk (hi); clear HK; clear HB; clear HI0; have HK := n0_; have HB := n1_; have HI0 := n2_; clear n0_ n1_ n2_; (try clear hb); (try clear hb2); (try clear hk); (try clear hi)))
        go_ret
        exact ⟨by first | rfl | (simp [errW_none, errW_some] <;> rfl) | (simp [*, errW_none, errW_some] <;> rfl), by repeat (first | (with_reducible first | exact HI0.out | apply IsS51.alloc | apply IsS51.drewN | apply IsS51.drew | apply IsS51.set_1 | apply IsS51.set_2) | exact HI0.out), by repeat (first | (with_reducible first | exact HB.out | apply below_alloc | apply pw_below_drewN | apply below_drew1 | refine below_set ?_ (IsS51.ge HI0.out)) | exact HB.out), by repeat (first | (with_reducible first | exact HK.out | apply KeepBut.set_ | apply keep_drewN | apply keep_drew | apply keep_alloc) | exact HK.out)⟩
    · rw [if_neg c5] at H
      have c5b0 : decide (200 < a1) = false := decide_eq_false c5
      clear c5
      by_cases c10 : a1 = 0
      · rw [if_pos c10] at H
        exact absurd H (by simp)
      · rw [if_neg c10] at H
        have c10b0 : (a1 == 0) = false := beq_eq_false_iff_ne.mpr c10
        have c10b1 : (a1 != 0) = true := bne_iff_ne.mpr c10
        simp only [Option.some.injEq, Prod.mk.injEq] at H
        obtain ⟨rfl, rfl, rfl⟩ := H
        go_enter Try.func34, Try.ntmps34
        go_wp2_with (first | ((with_reducible refine gate_callee (f := 54) rfl ?_); refine goesL_ (some 9) rfl rfl Try.func54 (by kernel_rfl) rfl #[.pointer (some ⟨g, 0, none⟩)] rfl (by (try simp only [List.map_toArray, List.map_cons, List.map_nil]); first | done | rfl | (simp only [List.length_drop, List.length_take]; rfl)) ?_; (with_reducible refine (spec_l1Cur_next.calls g s0_0 s0_1 s0_2 t133 t134 t135 w0 _ ?side1 ?side2 A4.out).mono ?_); (case side1 => repeat (first | (with_reducible first | exact HI0.out | apply IsS51.alloc | apply IsS51.drewN | apply IsS51.drew | apply IsS51.set_1 | apply IsS51.set_2) | exact HI0.out)); (case side2 => repeat (first | (with_reducible first | exact HB.out | apply below_alloc | apply pw_below_drewN | apply below_drew1 | refine below_set ?_ (IsS51.ge HI0.out)) | exact HB.out)); rintro e w11 ⟨rfl, hi, hb, hk⟩; refine ⟨_, rfl, ?_⟩; have n0_ := Aside0.mk (KeepBut.trans (by repeat (first | (with_reducible first | exact HK.out | apply KeepBut.set_ | apply keep_drewN | apply keep_drew | apply keep_alloc) | exact HK.out)) hk (.inl rfl)); have n1_ := Aside0.mk (hb); have n2_ := Aside0.mk (hi); clear HK; clear HB; clear HI0; have HK := n0_; have HB := n1_; have HI0 := n2_; clear n0_ n1_ n2_; (try clear hb); (try clear hb2); (try clear hk); (try clear hi)))
        go_ret
        exact ⟨by first | rfl | (simp [errW_none, errW_some] <;> rfl) | (simp [*, errW_none, errW_some] <;> rfl), by repeat (first | (with_reducible first | exact HI0.out | apply IsS51.alloc | apply IsS51.drewN | apply IsS51.drew | apply IsS51.set_1 | apply IsS51.set_2) | exact HI0.out), by repeat (first | (with_reducible first | exact HB.out | apply below_alloc | apply pw_below_drewN | apply below_drew1 | refine below_set ?_ (IsS51.ge HI0.out)) | exact HB.out), by repeat (first | (with_reducible first | exact HK.out | apply KeepBut.set_ | apply keep_drewN | apply keep_drew | apply keep_alloc) | exact HK.out)⟩

/-! ### spec_l1Cur_one: function 32 -/
def spec_l1Cur_one.f (s0_0 : List Int) (s0_1 : Int) (s0_2 : Int) (a1 : Int) : Option (Bool × Int × Int) := (spec_l1Cur_pick.f s0_0 s0_1 s0_2 a1).bind fun bt139 => (some ((bt139.1 == 0), bt139.2.1, bt139.2.2))
set_option maxHeartbeats 8000000 in
set_option maxRecDepth 100000 in
theorem spec_l1Cur_one.calls (g : Nat) (s0_0 : List Int) (s0_1 : Int) (s0_2 : Int) (a1 : Int) (r1 : Bool) (r2 : Int) (r3 : Int) (w0 w : World) (hI : IsS51 w0 w g s0_0 s0_1 s0_2) (hB : Below w0.heap.size w0 w) (h : spec_l1Cur_one.f s0_0 s0_1 s0_2 a1 = some (r1, r2, r3)) :
    Calls Try.prog 32 #[.pointer (some ⟨g, 0, none⟩), .int .i64 a1] w fun e w' => e = .returned (.bool r1) ∧ IsS51 w0 w' g s0_0 r2 r3 ∧ Below w0.heap.size w0 w' ∧ KeepBut w w' g none := by
  have HI0 := Aside0.mk hI
  have HK := Aside0.mk (KeepBut.refl w g none)
  have HL := Aside0.mk hB.size
  clear hI
  have HW0 := Aside0.mk hB.size
  have HB := Aside0.mk hB
  clear hB
  have H : ((spec_l1Cur_pick.f s0_0 s0_1 s0_2 a1).bind fun bt139 => (some ((bt139.1 == 0), bt139.2.1, bt139.2.2))) = some (r1, r2, r3) := h
  clear h
  replace H := Option.bind_eq_some_iff.mp H
  obtain ⟨⟨t139, t140, t141⟩, A30, H⟩ := H
  replace H : (some ((t139 == 0), t140, t141)) = some (r1, r2, r3) := H
  have A3 := Aside0.mk A30
  clear A30
  simp only [Option.some.injEq, Prod.mk.injEq] at H
  obtain ⟨rfl, rfl, rfl⟩ := H
  go_enter Try.func32, Try.ntmps32
  go_wp2_with (first | ((with_reducible refine gate_callee (f := 34) rfl ?_); refine goesL_ (some 7) rfl rfl Try.func34 (by kernel_rfl) rfl #[.pointer (some ⟨g, 0, none⟩), .int .i64 a1] rfl (by (try simp only [List.map_toArray, List.map_cons, List.map_nil]); first | done | rfl | (simp only [List.length_drop, List.length_take]; rfl)) ?_; (with_reducible refine (spec_l1Cur_pick.calls g s0_0 s0_1 s0_2 a1 t139 t140 t141 w0 _ ?side1 ?side2 A3.out).mono ?_); (case side1 => repeat (first | (with_reducible first | exact HI0.out | apply IsS51.alloc | apply IsS51.drewN | apply IsS51.drew | apply IsS51.set_1 | apply IsS51.set_2) | exact HI0.out)); (case side2 => repeat (first | (with_reducible first | exact HB.out | apply below_alloc | apply pw_below_drewN | apply below_drew1 | refine below_set ?_ (IsS51.ge HI0.out)) | exact HB.out)); rintro e w4 ⟨rfl, hi, hb, hk⟩; refine ⟨_, rfl, ?_⟩; have n0_ := Aside0.mk (KeepBut.trans (by repeat (first | (with_reducible first | exact HK.out | apply KeepBut.set_ | apply keep_drewN | apply keep_drew | apply keep_alloc) | exact HK.out)) hk (.inl rfl)); have n1_ := Aside0.mk (hb); have n2_ := Aside0.mk (hi); clear HK; clear HB; clear HI0; have HK := n0_; have HB := n1_; have HI0 := n2_; clear n0_ n1_ n2_; (try clear hb); (try clear hb2); (try clear hk); (try clear hi)))
  go_ret
  exact ⟨by first | rfl | (simp [errW_none, errW_some] <;> rfl) | (simp [*, errW_none, errW_some] <;> rfl), by repeat (first | (with_reducible first | exact HI0.out | apply IsS51.alloc | apply IsS51.drewN | apply IsS51.drew | apply IsS51.set_1 | apply IsS51.set_2) | exact HI0.out), by repeat (first | (with_reducible first | exact HB.out | apply below_alloc | apply pw_below_drewN | apply below_drew1 | refine below_set ?_ (IsS51.ge HI0.out)) | exact HB.out), by repeat (first | (with_reducible first | exact HK.out | apply KeepBut.set_ | apply keep_drewN | apply keep_drew | apply keep_alloc) | exact HK.out)⟩

/-! ### spec_l1Cur_among: function 33 -/
def spec_l1Cur_among.f (s0_0 : List Int) (s0_1 : Int) (s0_2 : Int) (l1 : List Int) : Option (Int × Int × Int) := (spec_l1Cur_pick.f s0_0 s0_1 s0_2 (l1.length : Int)).bind fun bt142 => (if 0 ≤ bt142.1 then (if bt142.1 < (l1.length : Int) then (some (rd l1 bt142.1, bt142.2.1, bt142.2.2)) else (none)) else (none))
set_option maxHeartbeats 8000000 in
set_option maxRecDepth 100000 in
theorem spec_l1Cur_among.calls (g : Nat) (s0_0 : List Int) (s0_1 : Int) (s0_2 : Int) (A1 : Option Addr) (c1 : Nat) (l1 : List Int) (r1 : Int) (r2 : Int) (r3 : Int) (w0 w : World) (hI : IsS51 w0 w g s0_0 s0_1 s0_2) (hB : Below w0.heap.size w0 w) (hr1 : Kd.C (Kd.int .i64) w A1 l1.length l1) (hc1 : l1.length ≤ c1) (hf1 : ∀ ad, A1 = some ad → 0 < l1.length → ad.block ≠ g) (h : spec_l1Cur_among.f s0_0 s0_1 s0_2 l1 = some (r1, r2, r3)) :
    Calls Try.prog 33 #[.pointer (some ⟨g, 0, none⟩), .slice A1 l1.length c1] w fun e w' => e = .returned (.int .i64 r1) ∧ IsS51 w0 w' g s0_0 r2 r3 ∧ Below w0.heap.size w0 w' ∧ KeepBut w w' g none := by
  have HR1 := Aside0.mk hr1
  have HC1 := Aside0.mk hc1
  clear hr1 hc1
  have HI0 := Aside0.mk hI
  have HK := Aside0.mk (KeepBut.refl w g none)
  have HL := Aside0.mk hB.size
  clear hI
  have HW0 := Aside0.mk hB.size
  have HB := Aside0.mk hB
  clear hB
  have H : ((spec_l1Cur_pick.f s0_0 s0_1 s0_2 (l1.length : Int)).bind fun bt142 => (if 0 ≤ bt142.1 then (if bt142.1 < (l1.length : Int) then (some (rd l1 bt142.1, bt142.2.1, bt142.2.2)) else (none)) else (none))) = some (r1, r2, r3) := h
  clear h
  replace H := Option.bind_eq_some_iff.mp H
  obtain ⟨⟨t142, t143, t144⟩, A30, H⟩ := H
  replace H : (if 0 ≤ t142 then (if t142 < (l1.length : Int) then (some (rd l1 t142, t143, t144)) else (none)) else (none)) = some (r1, r2, r3) := H
  have A3 := Aside0.mk A30
  clear A30
  by_cases c4 : 0 ≤ t142
  · rw [if_pos c4] at H
    have c4b0 : decide (0 ≤ t142) = true := decide_eq_true c4
    clear c4
    by_cases c5 : t142 < (l1.length : Int)
    · rw [if_pos c5] at H
      have c5b0 : decide (t142 < (l1.length : Int)) = true := decide_eq_true c5
      clear c5
      simp only [Option.some.injEq, Prod.mk.injEq] at H
      obtain ⟨rfl, rfl, rfl⟩ := H
      go_enter Try.func33, Try.ntmps33
      go_wp2_with (first | ((with_reducible refine gate_callee (f := 34) rfl ?_); refine goesL_ (some 9) rfl rfl Try.func34 (by kernel_rfl) rfl #[.pointer (some ⟨g, 0, none⟩), .int .i64 (l1.length : Int)] rfl (by (try simp only [List.map_toArray, List.map_cons, List.map_nil]); first | done | rfl | (simp only [List.length_drop, List.length_take]; rfl)) ?_; (with_reducible refine (spec_l1Cur_pick.calls g s0_0 s0_1 s0_2 (l1.length : Int) t142 t143 t144 w0 _ ?side1 ?side2 A3.out).mono ?_); (case side1 => repeat (first | (with_reducible first | exact HI0.out | apply IsS51.alloc | apply IsS51.drewN | apply IsS51.drew | apply IsS51.set_1 | apply IsS51.set_2) | exact HI0.out)); (case side2 => repeat (first | (with_reducible first | exact HB.out | apply below_alloc | apply pw_below_drewN | apply below_drew1 | refine below_set ?_ (IsS51.ge HI0.out)) | exact HB.out)); rintro e w6 ⟨rfl, hi, hb, hk⟩; refine ⟨_, rfl, ?_⟩; have n0_ := Aside0.mk (KeepBut.trans (by repeat (first | (with_reducible first | exact HK.out | apply KeepBut.set_ | apply keep_drewN | apply keep_drew | apply keep_alloc) | exact HK.out)) hk (.inl rfl)); have n1_ := Aside0.mk (hb); have n2_ := Aside0.mk (hi); clear HK; clear HB; clear HI0; have HK := n0_; have HB := n1_; have HI0 := n2_; clear n0_ n1_ n2_; (try clear hb); (try clear hb2); (try clear hk); (try clear hi); have p145 : 0 ≤ (t142 : Int) := of_decide_eq_true (by first | (with_reducible assumption) | assumption); have q145 : t142 < (l1.length : Int) := of_decide_eq_true (by first | (with_reducible assumption) | assumption); obtain ⟨ad145, e145, hx145_0⟩ := Kd.at_int HR1.out t142 p145 q145; cases e145; replace hx145_0 := keep_cell HK.out hx145_0 (by first | (rw [add_block]; exact hf1 _ rfl (by omega)) | exact hf1 _ rfl (by omega) | exact hf1 ad145 rfl (by omega)); replace p145 := eq_true p145; replace q145 := eq_true q145))
      go_ret
      exact ⟨by first | rfl | (simp [errW_none, errW_some] <;> rfl) | (simp [*, errW_none, errW_some] <;> rfl), by repeat (first | (with_reducible first | exact HI0.out | apply IsS51.alloc | apply IsS51.drewN | apply IsS51.drew | apply IsS51.set_1 | apply IsS51.set_2) | exact HI0.out), by repeat (first | (with_reducible first | exact HB.out | apply below_alloc | apply pw_below_drewN | apply below_drew1 | refine below_set ?_ (IsS51.ge HI0.out)) | exact HB.out), by repeat (first | (with_reducible first | exact HK.out | apply KeepBut.set_ | apply keep_drewN | apply keep_drew | apply keep_alloc) | exact HK.out)⟩
    · rw [if_neg c5] at H
      exact absurd H (by simp)
  · rw [if_neg c4] at H
    exact absurd H (by simp)

/-! ### spec_DrawTreeChain: function 15 -/
def spec_DrawTreeChain.f (l0 : List Int) : Option (Int) := (spec_l1Cur_one.f l0 0 0 6).bind fun bt147 => (if bt147.1 = true then ((spec_l1Cur_among.f l0 bt147.2.1 bt147.2.2 (([(-1), 0, 1, 400, 401] : List Int))).bind fun bt153 => (some bt153.1)) else ((spec_l1Cur_pick.f l0 bt147.2.1 bt147.2.2 120).bind fun bt156 => (some (wrap64 (1 + bt156.1)))))
set_option maxHeartbeats 8000000 in
set_option maxRecDepth 100000 in
theorem spec_DrawTreeChain.calls (A0 : Option Addr) (c0 : Nat) (l0 : List Int) (r : Int) (w : World) (hr0 : Kd.C (Kd.int .u8) w A0 l0.length l0) (hc0 : l0.length ≤ c0) (h : spec_DrawTreeChain.f l0 = some r) :
    Calls Try.prog 15 #[.slice A0 l0.length c0] w fun e w' => e = .returned (.int .i64 r) ∧ Below w.heap.size w w' := by
  have hu51 := Try.underlying51
  have HR0 := Aside0.mk hr0
  have HC0 := Aside0.mk hc0
  clear hr0 hc0
  have HB := Aside0.mk (Below.refl w.heap.size w)
  have H : ((spec_l1Cur_one.f l0 0 0 6).bind fun bt147 => (if bt147.1 = true then ((spec_l1Cur_among.f l0 bt147.2.1 bt147.2.2 (([(-1), 0, 1, 400, 401] : List Int))).bind fun bt153 => (some bt153.1)) else ((spec_l1Cur_pick.f l0 bt147.2.1 bt147.2.2 120).bind fun bt156 => (some (wrap64 (1 + bt156.1)))))) = some r := h
  clear h
  replace H := Option.bind_eq_some_iff.mp H
  obtain ⟨⟨t147, t148, t149⟩, A20, H⟩ := H
  replace H : (if t147 = true then ((spec_l1Cur_among.f l0 t148 t149 (([(-1), 0, 1, 400, 401] : List Int))).bind fun bt153 => (some bt153.1)) else ((spec_l1Cur_pick.f l0 t148 t149 120).bind fun bt156 => (some (wrap64 (1 + bt156.1))))) = some r := H
  have A2 := Aside0.mk A20
  clear A20
  by_cases c3 : t147 = true
  · subst c3
    have H1 : ((spec_l1Cur_among.f l0 t148 t149 (([(-1), 0, 1, 400, 401] : List Int))).bind fun bt153 => (some bt153.1)) = some r := by rw [if_pos rfl] at H; exact H
    clear H
    have H := H1
    clear H1
    obtain ⟨y150, hy150⟩ : ∃ y_ : List Int, y_ = (([(-1), 0, 1, 400, 401] : List Int)) := ⟨_, rfl⟩
    replace H : ((spec_l1Cur_among.f l0 t148 t149 y150).bind fun bt153 => (some bt153.1)) = some r := by first | (rw [hy150]; with_reducible exact H) | (have H2_ := (Option.bind_some _ _).symm.trans H; rw [hy150]; with_reducible exact H2_) | (have H2_ := (Option.bind_some _ _).symm.trans H; with_reducible exact H2_) | with_reducible exact H | (rw [hy150]; exact H) | exact H
    have Ny150 := Aside0.mk hy150
    clear hy150
    replace H := Option.bind_eq_some_iff.mp H
    obtain ⟨⟨t153, t154, t155⟩, A40, H⟩ := H
    replace H : (some t153) = some r := H
    have A4 := Aside0.mk A40
    clear A40
    obtain rfl := Option.some.inj H
    go_enter Try.func15, Try.ntmps15
    go_wp2_with (first | ((with_reducible refine gate_dst (N := 6) rfl ?_); refine box_event ?hg (N := 6) ?hd (cs := #[.slice A0 l0.length c0, .int .i64 0, .int .u64 0]) (t := 51) ?hr ?_; (case hd => rfl); (case hg => rfl); (case hr => first | (go_simp; done) | (go_simp; rfl)); intro gb146 hg w5 hbox hb; have n0_ := Aside0.mk (below_step (by repeat (first | (with_reducible first | exact HB.out | apply below_alloc | apply pw_below_drewN | apply below_drew1) | exact HB.out)) hb); have n1_ := Aside0.mk ((by rw [hg]; exact (below_size (by repeat (first | (with_reducible first | exact HB.out | apply below_alloc | apply pw_below_drewN | apply below_drew1) | exact HB.out))) : w.heap.size ≤ gb146)); have n2_ := Aside0.mk ((by rw [hg]; exact (below_size (by repeat (first | (with_reducible first | exact HB.out | apply below_alloc | apply pw_below_drewN | apply below_drew1) | exact HB.out))) : w.heap.size ≤ gb146)); have n3_ := Aside0.mk ((show IsS51 w w5 gb146 l0 0 0 from ⟨_, _, hbox, (by rw [hg]; exact (below_size (by repeat (first | (with_reducible first | exact HB.out | apply below_alloc | apply pw_below_drewN | apply below_drew1) | exact HB.out)))), HR0.out⟩)); clear HB; have HB := n0_; have GW146 := n1_; have GE146 := n2_; have HI146 := n3_; clear n0_ n1_ n2_ n3_; clear hb hbox hg) | ((with_reducible refine gate_callee (f := 32) rfl ?_); refine goesL_ (some 8) rfl rfl Try.func32 (by kernel_rfl) rfl #[.pointer (some ⟨gb146, 0, none⟩), .int .i64 6] rfl (by (try simp only [List.map_toArray, List.map_cons, List.map_nil]); first | done | rfl | (simp only [List.length_drop, List.length_take]; rfl)) ?_; (with_reducible refine (spec_l1Cur_one.calls gb146 l0 0 0 6 true t148 t149 w _ ?side1 ?side2 A2.out).mono ?_); (case side1 => repeat (first | (with_reducible first | exact HI146.out | apply IsS51.alloc | apply IsS51.drewN | apply IsS51.drew | apply IsS51.set_1 | apply IsS51.set_2) | exact HI146.out)); (case side2 => repeat (first | (with_reducible first | exact HB.out | apply below_alloc | apply pw_below_drewN | apply below_drew1 | refine below_set ?_ (IsS51.ge HI146.out)) | exact HB.out)); rintro e w6 ⟨rfl, hi, hb, hk⟩; refine ⟨_, rfl, ?_⟩; have n0_ := Aside0.mk (hb); have n1_ := Aside0.mk (hi); clear HB; clear HI146; have HB := n0_; have HI146 := n1_; clear n0_ n1_; (try clear hb); (try clear hb2); (try clear hk); (try clear hi)) | ((with_reducible refine gate_dst (N := 10) rfl ?_); refine Kd.R_lit (Kd.int .i64) _ 3 ?hg (N := 10) ?hd (xs := ([(-1), 0, 1, 400, 401] : List Int)) (inner := [.int .i64 (-1), .int .i64 0, .int .i64 1, .int .i64 400, .int .i64 401]) (ok := fun _ => True) (okp := fun _ => True) ?hr ?hp (fun _ hk => hk) trivial (Below.refl _ _) (Nat.le_refl _) (by simp) ?_; (case hd => rfl); (case hg => rfl); (case hr => first | (go_simp; done) | (go_simp; rfl)); (case hp => exact (Reps.one (show Kd.M (Kd.int .i64) _ _ _ (-1) [.int .i64 (-1)] from rfl) (Reps.one (show Kd.M (Kd.int .i64) _ _ _ 0 [.int .i64 0] from rfl) (Reps.one (show Kd.M (Kd.int .i64) _ _ _ 1 [.int .i64 1] from rfl) (Reps.one (show Kd.M (Kd.int .i64) _ _ _ 400 [.int .i64 400] from rfl) (Reps.one (show Kd.M (Kd.int .i64) _ _ _ 401 [.int .i64 401] from rfl) (Reps.none _ _))))))); intro v151 w7 ho8 hb hg_ hnew_; clear hg_ hnew_; (first | rw [← Ny150.out] at ho8 | (simp only [Int.reduceToNat] at ho8; rw [← Ny150.out] at ho8)); have n0_ := Aside0.mk (Kd.R_lower ho8 (below_size (by repeat (first | (with_reducible first | exact HB.out | apply below_alloc | apply pw_below_drewN | apply below_drew1 | refine below_set ?_ (IsS51.ge HI146.out)) | exact HB.out)))); have n1_ := Aside0.mk (IsS51.below (by repeat (first | (with_reducible first | exact HI146.out | apply IsS51.alloc | apply IsS51.drewN | apply IsS51.drew | apply IsS51.set_1 | apply IsS51.set_2) | exact HI146.out)) hb); have n2_ := Aside0.mk (below_step (by repeat (first | (with_reducible first | exact HB.out | apply below_alloc | apply pw_below_drewN | apply below_drew1 | refine below_set ?_ (IsS51.ge HI146.out)) | exact HB.out)) hb); clear HI146; clear HB; have HO152 := n0_; have HI146 := n1_; have HB := n2_; clear n0_ n1_ n2_; clear hb ho8; obtain ⟨Ao9, co9, eo9⟩ := Kd.R_slice HO152.out; subst eo9) | ((with_reducible refine gate_callee (f := 33) rfl ?_); refine goesL_ (some 11) rfl rfl Try.func33 (by kernel_rfl) rfl #[.pointer (some ⟨gb146, 0, none⟩), .slice Ao9 y150.length co9] rfl (by (try simp only [List.map_toArray, List.map_cons, List.map_nil]); first | done | rfl | (simp only [List.length_drop, List.length_take]; rfl)) ?_; (with_reducible refine (spec_l1Cur_among.calls gb146 l0 t148 t149 _ _ y150 t153 t154 t155 w _ ?side1 ?side2 ?side3 ?side4 ?side5 A4.out).mono ?_); (case side1 => repeat (first | (with_reducible first | exact HI146.out | apply IsS51.alloc | apply IsS51.drewN | apply IsS51.drew | apply IsS51.set_1 | apply IsS51.set_2) | exact HI146.out)); (case side2 => repeat (first | (with_reducible first | exact HB.out | apply below_alloc | apply pw_below_drewN | apply below_drew1 | refine below_set ?_ (IsS51.ge HI146.out)) | exact HB.out)); (case side3 => repeat (first | exact (Kd.R_reads' HO152.out).2.2 | (with_reducible refine Kd.C_alloc ?_ _) | (with_reducible refine Kd.C_drewN ?_ _) | (with_reducible refine Kd.C_drew ?_))); (case side4 => exact (Kd.R_reads' HO152.out).2.1); (case side5 => exact far_slice (IsS51.own_ne HI146.out HO152.out (by decide))); rintro e w10 ⟨rfl, hi, hb, hk⟩; refine ⟨_, rfl, ?_⟩; have n0_ := Aside0.mk (Kd.R_mono (Kd.R_keep (IsS51.apart (show IsS51 w _ gb146 l0 t148 t149 from by repeat (first | (with_reducible first | exact HI146.out | apply IsS51.alloc | apply IsS51.drewN | apply IsS51.drew | apply IsS51.set_1 | apply IsS51.set_2) | exact HI146.out)) (by (with_reducible repeat (first | apply Kd.R_alloc | apply Kd.R_drewN | apply Kd.R_drew)); exact HO152.out) (by decide)) hk (fun _ h => h.2)) (fun _ h => h.1)); have n1_ := Aside0.mk (hb); have n2_ := Aside0.mk (hi); clear HO152; clear HB; clear HI146; have HO152 := n0_; have HB := n1_; have HI146 := n2_; clear n0_ n1_ n2_; (try clear hb); (try clear hb2); (try clear hk); (try clear hi)))
    go_ret
    exact ⟨by first | rfl | (simp [errW_none, errW_some] <;> rfl) | (simp [*, errW_none, errW_some] <;> rfl), by repeat (first | (with_reducible first | exact HB.out | apply below_alloc | apply pw_below_drewN | apply below_drew1 | refine below_set ?_ (IsS51.ge HI146.out)) | exact HB.out)⟩
  · replace c3 := Bool.eq_false_iff.mpr c3
    subst c3
    have H1 : ((spec_l1Cur_pick.f l0 t148 t149 120).bind fun bt156 => (some (wrap64 (1 + bt156.1)))) = some r := by rw [if_neg (show ¬ (false = true) by decide)] at H; exact H
    clear H
    have H := H1
    clear H1
    replace H := Option.bind_eq_some_iff.mp H
    obtain ⟨⟨t156, t157, t158⟩, A110, H⟩ := H
    replace H : (some (wrap64 (1 + t156))) = some r := H
    have A11 := Aside0.mk A110
    clear A110
    obtain rfl := Option.some.inj H
    go_enter Try.func15, Try.ntmps15
    go_wp2_with (first | ((with_reducible refine gate_dst (N := 6) rfl ?_); refine box_event ?hg (N := 6) ?hd (cs := #[.slice A0 l0.length c0, .int .i64 0, .int .u64 0]) (t := 51) ?hr ?_; (case hd => rfl); (case hg => rfl); (case hr => first | (go_simp; done) | (go_simp; rfl)); intro gb146 hg w12 hbox hb; have n0_ := Aside0.mk (below_step (by repeat (first | (with_reducible first | exact HB.out | apply below_alloc | apply pw_below_drewN | apply below_drew1) | exact HB.out)) hb); have n1_ := Aside0.mk ((by rw [hg]; exact (below_size (by repeat (first | (with_reducible first | exact HB.out | apply below_alloc | apply pw_below_drewN | apply below_drew1) | exact HB.out))) : w.heap.size ≤ gb146)); have n2_ := Aside0.mk ((by rw [hg]; exact (below_size (by repeat (first | (with_reducible first | exact HB.out | apply below_alloc | apply pw_below_drewN | apply below_drew1) | exact HB.out))) : w.heap.size ≤ gb146)); have n3_ := Aside0.mk ((show IsS51 w w12 gb146 l0 0 0 from ⟨_, _, hbox, (by rw [hg]; exact (below_size (by repeat (first | (with_reducible first | exact HB.out | apply below_alloc | apply pw_below_drewN | apply below_drew1) | exact HB.out)))), HR0.out⟩)); clear HB; have HB := n0_; have GW146 := n1_; have GE146 := n2_; have HI146 := n3_; clear n0_ n1_ n2_ n3_; clear hb hbox hg) | ((with_reducible refine gate_callee (f := 32) rfl ?_); refine goesL_ (some 8) rfl rfl Try.func32 (by kernel_rfl) rfl #[.pointer (some ⟨gb146, 0, none⟩), .int .i64 6] rfl (by (try simp only [List.map_toArray, List.map_cons, List.map_nil]); first | done | rfl | (simp only [List.length_drop, List.length_take]; rfl)) ?_; (with_reducible refine (spec_l1Cur_one.calls gb146 l0 0 0 6 false t148 t149 w _ ?side1 ?side2 A2.out).mono ?_); (case side1 => repeat (first | (with_reducible first | exact HI146.out | apply IsS51.alloc | apply IsS51.drewN | apply IsS51.drew | apply IsS51.set_1 | apply IsS51.set_2) | exact HI146.out)); (case side2 => repeat (first | (with_reducible first | exact HB.out | apply below_alloc | apply pw_below_drewN | apply below_drew1 | refine below_set ?_ (IsS51.ge HI146.out)) | exact HB.out)); rintro e w13 ⟨rfl, hi, hb, hk⟩; refine ⟨_, rfl, ?_⟩; have n0_ := Aside0.mk (hb); have n1_ := Aside0.mk (hi); clear HB; clear HI146; have HB := n0_; have HI146 := n1_; clear n0_ n1_; (try clear hb); (try clear hb2); (try clear hk); (try clear hi)) | ((with_reducible refine gate_callee (f := 34) rfl ?_); refine goesL_ (some 13) rfl rfl Try.func34 (by kernel_rfl) rfl #[.pointer (some ⟨gb146, 0, none⟩), .int .i64 120] rfl (by (try simp only [List.map_toArray, List.map_cons, List.map_nil]); first | done | rfl | (simp only [List.length_drop, List.length_take]; rfl)) ?_; (with_reducible refine (spec_l1Cur_pick.calls gb146 l0 t148 t149 120 t156 t157 t158 w _ ?side1 ?side2 A11.out).mono ?_); (case side1 => repeat (first | (with_reducible first | exact HI146.out | apply IsS51.alloc | apply IsS51.drewN | apply IsS51.drew | apply IsS51.set_1 | apply IsS51.set_2) | exact HI146.out)); (case side2 => repeat (first | (with_reducible first | exact HB.out | apply below_alloc | apply pw_below_drewN | apply below_drew1 | refine below_set ?_ (IsS51.ge HI146.out)) | exact HB.out)); rintro e w14 ⟨rfl, hi, hb, hk⟩; refine ⟨_, rfl, ?_⟩; have n0_ := Aside0.mk (hb); have n1_ := Aside0.mk (hi); clear HB; clear HI146; have HB := n0_; have HI146 := n1_; clear n0_ n1_; (try clear hb); (try clear hb2); (try clear hk); (try clear hi)))
    go_ret
    exact ⟨by first | rfl | (simp [errW_none, errW_some] <;> rfl) | (simp [*, errW_none, errW_some] <;> rfl), by repeat (first | (with_reducible first | exact HB.out | apply below_alloc | apply pw_below_drewN | apply below_drew1 | refine below_set ?_ (IsS51.ge HI146.out)) | exact HB.out)⟩

end Go.Proofs.Ytbjmnneaflmgaaa.MFnTreeOfPowers
