/- ParseChain of the program, walked over the shelf's SplitN and Atoi. -/
import Derived.Test.YtlefjgpkabijdaaDoorCT
import Derived.Test.YtlefjgpkabijdaaDoorMFnExactParseChainx
import Derived.Shelf.Strings.SplitShaped
import Derived.Shelf.Strconv.ErrVarAll
import Derived.Lib.AtoiErrMem
namespace Go.Proofs.YtlefjgpkabijdaaDoor.PW
set_option linter.unusedVariables false
set_option linter.unusedSimpArgs false
open Go.RowKit Go.Proofs.YtlefjgpkabijdaaDoorW.PrintWords Go.Proofs.YtlefjgpkabijdaaDoorW.PrintLast Go.Proofs.YtlefjgpkabijdaaDoorW.PrintMore Go.Proofs.YtlefjgpkabijdaaDoorV Go.Proofs.YtlefjgpkabijdaaDoorL Go.Proofs.YtlefjgpkabijdaaDoor.CT

/-- The number that Atoi hands back, the error left aside. -/
def val (s : ByteArray) : Int := match Lib.atoiAll s.data.toList with | .ok v => v | .range => Lib.atoiSat s.data.toList | _ => 0
/-- What the walks read of the library's variables: each cell holds some value of its kind. -/
structure Vars (w : World) : Prop where
  len : ∃ m, w.cell? ⟨0, 0, none⟩ = some (.int .i64 m)
  syn : ∃ t p, w.cell? ⟨2, 0, none⟩ = some (.iface t p)
  ran : ∃ t p, w.cell? ⟨3, 0, none⟩ = some (.iface t p)
theorem Vars.on {w w1 : World} (h : Vars w) (hb : Below w.heap.size w w1) : Vars w1 := by
  obtain ⟨⟨m, h1⟩, ⟨t, p, h2⟩, ⟨u, q, h3⟩⟩ := h
  exact ⟨⟨m, pw_cell_below hb h1⟩, ⟨t, p, pw_cell_below hb h2⟩, ⟨u, q, pw_cell_below hb h3⟩⟩

theorem atoi_c (s : ByteArray) (hs : s.size ≤ 281474976710656) (w : World) (hv : Vars w) :
    Calls Tryd.prog 37 #[.string s] w fun e w' => ∃ v, e = .returned (.tuple #[.int .i64 (val s), v]) ∧ Below w.heap.size w w' := by
  obtain ⟨_, ⟨t, p, h2⟩, ⟨u, q, h3⟩⟩ := hv
  unfold val
  cases h : Lib.atoiAll s.data.toList
  · rename_i v
    refine (Any.strconv_Atoi_ok lay_atoi s (by omega) v h w).mono fun e w' hh => ?_
    obtain ⟨rfl, hw⟩ := hh
    refine ⟨_, rfl, ?_⟩
    rcases hw with rfl | ⟨x, rfl⟩
    · exact Below.refl _ _
    · exact Lib.bytesWorld_below _ _ _
  · refine (Any.strconv_Atoi_syntax lay_atoi s hs h (.iface t p) w h2 (Or.inr ⟨_, _, rfl⟩)).mono fun e w' hh => ?_
    obtain ⟨n, rfl, _, _, hb⟩ := hh
    exact ⟨_, rfl, hb⟩
  · refine (Any.strconv_Atoi_range lay_atoi s hs h (.iface u q) w h3 (Or.inr ⟨_, _, rfl⟩)).mono fun e w' hh => ?_
    obtain ⟨n, rfl, _, _, hb⟩ := hh
    exact ⟨_, rfl, hb⟩

set_option maxHeartbeats 4000000 in
set_option maxRecDepth 100000 in
theorem numberOf_c (s : ByteArray) (hs : s.size ≤ 281474976710656) (w : World) (hv : Vars w) :
    Calls Tryd.prog 31 #[.string s] w fun e w' => e = .returned (.int .i64 (val s)) ∧ Below w.heap.size w w' := by
  have C := Aside0.mk (atoi_c s hs w hv)
  clear hs hv
  go_enter Tryd.func31, Tryd.ntmps31
  go_wp2_with (go_at_call 37; refine C.out.mono ?_; rintro e w1 ⟨v, rfl, hb⟩; have HB1 := Aside0.mk hb; clear hb)
  go_ret
  exact ⟨rfl, HB1.out⟩

theorem vsnoc (l : List ByteArray) (k : Nat) (h : k < l.length) : (l.take (k + 1)).map val = (l.take k).map val ++ [val (rdOf ByteArray.empty l (k : Int))] := by
  have e : rdOf ByteArray.empty l (k : Int) = l[k] := by simp [rdOf, List.getD, h]
  rw [List.take_succ_eq_append_getElem h, List.map_append, e]
  rfl
theorem rdOf_mem (l : List ByteArray) (k : Nat) (h : k < l.length) : rdOf ByteArray.empty l (k : Int) ∈ l := by
  have e : rdOf ByteArray.empty l (k : Int) = l[k] := by simp [rdOf, List.getD, h]
  rw [e]; exact List.getElem_mem h

set_option maxHeartbeats 4000000 in
set_option maxRecDepth 100000 in
theorem numbersOf_c (A0 : Option Addr) (c0 : Nat) (l0 : List ByteArray) (w : World) (hr0 : Kd.C Kd.string w A0 l0.length l0) (hc0 : l0.length ≤ c0) (hlen : l0.length ≤ 1000) (hx : ∀ x ∈ l0, x.size ≤ 281474976710656) (hv : Vars w) :
    Calls Tryd.prog 20 #[.slice A0 l0.length c0] w fun e w' => ∃ v, e = .returned v ∧ Kd.R (Kd.int .i64) 3 w' w.heap.size (fun _ => True) v (l0.map val) ∧ Below w.heap.size w w' := by
  have HR0 := Aside0.mk hr0
  have HX := Aside0.mk hx
  have HV := Aside0.mk hv
  have HE := Aside0.mk hlen
  clear hr0 hx hv hlen
  go_enter Tryd.func20, Tryd.ntmps20
  go_wp2_with (first | ((with_reducible refine gate_dst (N := 6) rfl ?_); refine Kd.R_lit (Kd.int .i64) w.heap.size 3 ?hg (N := 6) ?hd (xs := ([] : List Int)) (inner := []) (ok := fun _ => True) (okp := fun _ => True) ?hr ?hp (fun _ hk => hk) trivial (Below.refl w.heap.size w) (Nat.le_refl _) (by simp) ?_; (case hd => rfl); (case hg => rfl); (case hr => first | (go_simp; done) | (go_simp; rfl)); (case hp => exact (Reps.none _ _)); intro v6 w1 ho hb hg_ hnew_; clear hg_ hnew_; have HO1 := Aside0.mk ho; have HB1 := Aside0.mk hb; clear hb ho))
  go_loopg [3, 9] l0.length (fun gg s3 s9 wr => ∃ (kk : Nat) (v : Value), Aside0 (kk ≤ l0.length ∧ l0.length - kk ≤ gg ∧ Below w.heap.size w wr ∧ Kd.R (Kd.int .i64) 3 wr w.heap.size (fun _ => True) v ((l0.take kk).map val)) ∧ s3 = v ∧ s9 = .int .i64 kk)
  case atStart => exact ⟨0, v6, ⟨⟨Nat.zero_le _, by omega, HB1.out, by rw [List.take_zero]; exact HO1.out⟩⟩, rfl, rfl⟩
  case round =>
    obtain ⟨kk, v, HK, rfl, rfl⟩ := hrel
    obtain ⟨h1, h2, h4, h5⟩ := HK.out
    clear HK
    by_cases hlt : kk < l0.length
    · have hltz : (kk : Int) < (l0.length : Int) := by omega
      obtain ⟨ad, ea, hx0⟩ := Kd.at_string HR0.out (kk : Int) (by omega) hltz
      subst ea
      rw [Int.toNat_natCast] at hx0
      replace hx0 := pw_cell_below h4 hx0
      have HS := Aside0.mk (vsnoc l0 kk hlt)
      have HM := Aside0.mk (HX.out _ (rdOf_mem l0 kk hlt))
      have HZ := Aside0.mk (show (((l0.take kk).map val).length + 1) * 8 ≤ 140737488355328 by rw [List.length_map, List.length_take]; have := HE.out; omega)
      have HI := Aside0.mk (show wrap64 ((kk : Int) + 1) = ((kk + 1 : Nat) : Int) by have := HE.out; unfold wrap64; omega)
      have H2 := Aside0.mk h2
      have H4 := Aside0.mk h4
      have H5 := Aside0.mk h5
      clear h2 h4 h5
      generalize (l0.take kk).map val = ps at *
      generalize rdOf ByteArray.empty l0 (kk : Int) = x at *
      go_wp2_with (first
        | (go_at_call 31; refine (numberOf_c x HM.out _ (HV.out.on H4.out)).mono ?_; rintro e w5 ⟨rfl, hb⟩; have HB5 := Aside0.mk (H4.out.trans (hb.mono H4.out.size)); have HO5 := Aside0.mk (Kd.R_below H5.out hb); clear hb)
        | ((with_reducible refine gate_builtin (b := .append) (xs := #[.tmp 13, .tmp 16]) rfl ?_); at_builtin; refine Kd.R_append (Kd.int .i64) (w0 := w) w.heap.size rfl (.tmp 13) (.tmp 16) 22 3 (.int .i64 0) 8 rfl Tryd.underlying22 MFnExactParseChain.info3 rfl (by decide) (by omega) _ ps (val x) [.int .i64 (val x)] (fun _ => True) (fun _ => False) rfl rfl rfl (fun _ h => h.elim) (fun _ _ => trivial) HO5.out HB5.out HB5.out.size HZ.out ?_; intro v6 w6 ho hb hg hat; have HO6 := Aside0.mk ho; have HB6 := Aside0.mk hb; clear ho hb hg hat))
      go_roundg (l0.length - (kk + 1))
      case measure => have := H2.out; omega
      case rel => exact ⟨kk + 1, v6, ⟨⟨by omega, by omega, HB6.out, by rw [HS.out]; exact HO6.out⟩⟩, rfl, by rw [HI.out]⟩
    · have hltz : ¬ (kk : Int) < (l0.length : Int) := by omega
      obtain rfl : kk = l0.length := by omega
      rw [List.take_length] at h5
      have H4 := Aside0.mk h4
      have H5 := Aside0.mk h5
      clear h2 h4 h5
      go_wp2
      go_ret
      exact ⟨_, rfl, H5.out, H4.out⟩

/-! SplitN -/
/-- The pieces between the spaces, 42 at most. -/
def pieces (s : ByteArray) : List ByteArray := Lib.splitB ⟨#[32]⟩ 0 (min 42 (s.size + 1) - 1) s
theorem pieces_len (s : ByteArray) : (pieces s).length ≤ min 42 (s.size + 1) := by
  have := Lib.splitB_length_le ⟨#[32]⟩ 0 (min 42 (s.size + 1) - 1) s
  unfold pieces; omega
theorem cells_C (l : List ByteArray) (N : Nat) (w : World) (hl : l.length ≤ 1000) : Kd.C Kd.string (w.alloc (.cells (Lib.cellsOf l N) 9)) (some ⟨w.heap.size, 0, none⟩) l.length l := by
  refine Kd.C_of_reads (enc := Value.string) (d := ByteArray.empty) (h1 := fun _ => rfl) ⟨rfl, by omega, fun _ => ⟨_, rfl, fun j hj => ?_⟩⟩
  rw [add_plain]
  refine (blk_cell (blk_new w _) j).trans ?_
  simp [Lib.cellsOf, List.getElem?_append, hj, List.getD]
theorem splitN_c (s : ByteArray) (hs : s.size < 4294967281) (w : World) (hv : Vars w) :
    Calls Tryd.prog 21 #[.string s, .string ⟨#[32]⟩, .int .i64 42] w fun e w' => ∃ A c, e = .returned (.slice A (pieces s).length c) ∧ (pieces s).length ≤ c ∧ Kd.C Kd.string w' A (pieces s).length (pieces s) ∧ Below w.heap.size w w' := by
  obtain ⟨⟨m, h1⟩, _, _⟩ := hv
  refine (Any.strings_SplitN { lay_splitn with } lay_splitn.i9 s ⟨#[32]⟩ 42 m w hs h1 (by decide) (by decide) (by decide)).mono fun e w' hh => ?_
  obtain ⟨rfl, rfl⟩ := hh
  exact ⟨_, _, rfl, pieces_len s, cells_C _ _ _ (by have := pieces_len s; unfold pieces at this; omega), below_alloc (Below.refl _ _) _⟩
end Go.Proofs.YtlefjgpkabijdaaDoor.PW
