/- The program's functions over the library's texts (chainText, numberOf, numbersOf, SplitN), walked over the shelf's contracts; no printed function in sight (CT, PW, PC without the M texts). -/
import Derived.Test.YtlefjgpkabijdaaGreatDoorV
import Derived.Test.YtlefjgpkabijdaaGreatDoorL
import Derived.Shelf.Strings.SplitShaped
import Derived.Shelf.Strconv.ErrVarAll
import Derived.Lib.AtoiErrMem
import Derived.Lib.AppendIntMem
namespace Go.Proofs.YtlefjgpkabijdaaGreatDoor.CW
set_option linter.unusedVariables false
set_option linter.unusedSimpArgs false
open Go.RowKit Go.Proofs.YtlefjgpkabijdaaGreatDoorW.PrintWords Go.Proofs.YtlefjgpkabijdaaGreatDoorW.PrintLast Go.Proofs.YtlefjgpkabijdaaGreatDoorW.PrintMore Go.Proofs.YtlefjgpkabijdaaGreatDoorV Go.Proofs.YtlefjgpkabijdaaGreatDoorL

/-- The numeral of a number, as bytes. -/
def num (x : Int) : ByteArray := ⟨(Lib.itoa x).toArray⟩
/-- The numerals of a list, a space between them. -/
def text (l : List Int) : ByteArray := ⟨(Lib.join (l.map Lib.itoa) [32]).toArray⟩
abbrev Tab (B : Nat) (w : World) : Prop := Lib.TabBelow Tryz.prog B w "internal/strconv.uint64pow10" .u64 Lib.pow10Tab
theorem info9 : (Tryz.prog.info? 9).map (fun i => (i.zero, i.size, i.bytes)) = some (some (.string ⟨#[]⟩), 1, 16) := by kernel_rfl
theorem extra : Builder.Extra Tryz.prog lay_join_ren where
  sizeBuilder := by kernel_rfl
  liesBuilder := by kernel_rfl
  t5 := Tryz.underlying5
  a5 := Tryz.isAgg5
  z5 := Tryz.sizeOf5
  v5 := Tryz.zeroValue5
  infoByte := by kernel_rfl
  cellsByte := by kernel_rfl
  sizeByte := by kernel_rfl
  neB5 := by decide
theorem itoa_c (n : Int) (h0 : 1 ≤ n) (h1 : n ≤ 1000000) (B : Nat) (w : World) (hB : B ≤ w.heap.size) (htab : Tab B w) :
    Calls Tryz.prog 47 #[.int .i64 n] w fun e w' => e = .returned (.string (num n)) ∧ Below w.heap.size w w' :=
  (Any.strconv_Itoa lay_itoa n (by omega) (by omega) w htab.here).mono fun e w' h => by
    obtain ⟨he, k, os, rfl⟩ := h
    exact ⟨he, Lib.below_grow _ _ (Nat.le_refl _) _ _⟩
theorem map_num (l : List Int) : (l.map num).map (·.data.toList) = l.map Lib.itoa := by
  rw [List.map_map]
  exact List.map_congr_left fun x _ => by simp [num]
theorem join_c (g cap : Nat) (l : List Int) (w : World) (hc : ∀ (j : Nat) x, (l.map num)[j]? = some x → w.cell? ⟨g, 0 + j, none⟩ = some (.string x)) (hg : g < w.heap.size) (hN : l.length ≤ 1000) (hcap : l.length ≤ cap) (hl : (Lib.join (l.map Lib.itoa) [32]).length ≤ 140737488355328) :
    Calls Tryz.prog 48 #[.slice (some ⟨g, 0, none⟩) l.length cap, .string ⟨#[32]⟩] w fun e w' => e = .returned (.string (text l)) ∧ Below w.heap.size w w' := by
  have h := Any.strings_Join lay_join extra g 0 cap (l.map num) ⟨#[32]⟩ w hc hg (by rw [List.length_map]; omega) (by rw [List.length_map]; exact hcap) (by rw [map_num]; exact hl)
  rw [map_num, List.length_map] at h
  exact h
theorem str_cells {e base : Nat} {W : World} {ok : Nat → Prop} {v : Value} {xs : List ByteArray} (h : Kd.string.R e W base ok v xs) (hn : 0 < xs.length) :
    ∃ g cap, v = .slice (some ⟨g, 0, none⟩) xs.length cap ∧ g < W.heap.size ∧ xs.length ≤ cap ∧ ∀ (j : Nat) x, xs[j]? = some x → W.cell? ⟨g, 0 + j, none⟩ = some (.string x) := by
  have h' := h
  obtain ⟨_, inner, hown, hr⟩ := h'
  rcases hown.2 with ⟨_, h0⟩ | ⟨g, cap, cur, rfl, hg, hh, hc, _⟩
  · omega
  · refine ⟨g, cap, rfl, blk_lt hh, hc, fun j x hx => ?_⟩
    have hj : j < xs.length := by
      rcases Nat.lt_or_ge j xs.length with h | h
      · exact h
      · rw [List.getElem?_eq_none h] at hx; cases hx
    have := (Kd.R_celln (enc := Value.string) ByteArray.empty h (j : Int) (by omega) (by omega)).1
    rw [Int.toNat_natCast] at this
    rw [Nat.zero_add, this]
    simp [rdOf, List.getD, hx]
theorem snoc (l : List Int) (k : Nat) (h : k < l.length) : (l.take (k + 1)).map num = (l.take k).map num ++ [num (rd l (k : Int))] := by
  have e : rd l (k : Int) = l[k] := by simp [rd, List.getD, h]
  rw [List.take_succ_eq_append_getElem h, List.map_append, e]
  rfl
theorem rd_mem (l : List Int) (k : Nat) (h : k < l.length) : rd l (k : Int) ∈ l := by
  have e : rd l (k : Int) = l[k] := by simp [rd, List.getD, h]
  rw [e]; exact List.getElem_mem h

set_option maxHeartbeats 4000000 in
set_option maxRecDepth 100000 in
theorem chainText_c (A0 : Option Addr) (c0 : Nat) (l0 : List Int) (w : World) (hr0 : Kd.C (Kd.int .i64) w A0 l0.length l0) (hc0 : l0.length ≤ c0) (hn : 0 < l0.length) (hlen : l0.length ≤ 1000) (hx : ∀ x ∈ l0, 1 ≤ x ∧ x ≤ 1000000)
    (hl : (Lib.join (l0.map Lib.itoa) [32]).length ≤ 140737488355328) (htab : Tab w.heap.size w) :
    Calls Tryz.prog 30 #[.slice A0 l0.length c0] w fun e w' => e = .returned (.string (text l0)) ∧ Below w.heap.size w w' := by
  have HR0 := Aside0.mk hr0
  have HX := Aside0.mk hx
  have HL := Aside0.mk hl
  have HT := Aside0.mk htab
  have HN := Aside0.mk hn
  have HE := Aside0.mk hlen
  clear hr0 hx hl htab hn hlen
  go_enter Tryz.func30, Tryz.ntmps30
  go_wp2_with (first | ((with_reducible refine gate_dst (N := 6) rfl ?_); refine Kd.R_lit Kd.string w.heap.size 9 ?hg (N := 6) ?hd (xs := ([] : List ByteArray)) (inner := []) (ok := fun _ => True) (okp := fun _ => True) ?hr ?hp (fun _ hk => hk) trivial (Below.refl w.heap.size w) (Nat.le_refl _) (by simp) ?_; (case hd => rfl); (case hg => rfl); (case hr => first | (go_simp; done) | (go_simp; rfl)); (case hp => exact (Reps.none _ _)); intro v6 w1 ho hb hg_ hnew_; clear hg_ hnew_; have HO1 := Aside0.mk ho; have HB1 := Aside0.mk hb; clear hb ho))
  go_loopg [3, 9] l0.length (fun gg s3 s9 wr => ∃ (kk : Nat) (v : Value), Aside0 (kk ≤ l0.length ∧ l0.length - kk ≤ gg ∧ Below w.heap.size w wr ∧ Kd.R Kd.string 9 wr w.heap.size (fun _ => True) v ((l0.take kk).map num)) ∧ s3 = v ∧ s9 = .int .i64 kk)
  case atStart => exact ⟨0, v6, ⟨⟨Nat.zero_le _, by omega, HB1.out, by rw [List.take_zero]; exact HO1.out⟩⟩, rfl, rfl⟩
  case round =>
    obtain ⟨kk, v, HK, rfl, rfl⟩ := hrel
    obtain ⟨h1, h2, h4, h5⟩ := HK.out
    clear HK
    by_cases hlt : kk < l0.length
    · have hltz : (kk : Int) < (l0.length : Int) := by omega
      obtain ⟨ad, ea, hx0⟩ := Kd.at_int HR0.out (kk : Int) (by omega) hltz
      subst ea
      rw [Int.toNat_natCast] at hx0
      replace hx0 := pw_cell_below h4 hx0
      have HS := Aside0.mk (snoc l0 kk hlt)
      have HM := Aside0.mk (HX.out _ (rd_mem l0 kk hlt))
      have HZ := Aside0.mk (show (((l0.take kk).map num).length + 1) * 16 ≤ 140737488355328 by rw [List.length_map, List.length_take]; have := HE.out; omega)
      have HI := Aside0.mk (show wrap64 ((kk : Int) + 1) = ((kk + 1 : Nat) : Int) by have := HE.out; unfold wrap64; omega)
      have H2 := Aside0.mk h2
      have H4 := Aside0.mk h4
      have H5 := Aside0.mk h5
      clear h2 h4 h5
      generalize (l0.take kk).map num = ps at *
      generalize rd l0 (kk : Int) = x at *
      go_wp2_with (first
        | (go_at_call 47; refine (itoa_c x HM.out.1 HM.out.2 w.heap.size _ H4.out.size (HT.out.on H4.out)).mono ?_; rintro e w5 ⟨rfl, hb⟩; have HB5 := Aside0.mk (H4.out.trans (hb.mono H4.out.size)); have HO5 := Aside0.mk (Kd.R_below H5.out hb); clear hb)
        | ((with_reducible refine gate_builtin (b := .append) (xs := #[.tmp 13, .tmp 16]) rfl ?_); at_builtin; refine Kd.R_append Kd.string (w0 := w) w.heap.size rfl (.tmp 13) (.tmp 16) 64 9 (.string ⟨#[]⟩) 16 rfl Tryz.underlying64 info9 rfl (by decide) (by omega) _ ps (num x) [.string (num x)] (fun _ => True) (fun _ => False) rfl rfl rfl (fun _ h => h.elim) (fun _ _ => trivial) HO5.out HB5.out HB5.out.size HZ.out ?_; intro v6 w6 ho hb hg hat; have HO6 := Aside0.mk ho; have HB6 := Aside0.mk hb; clear ho hb hg hat))
      go_roundg (l0.length - (kk + 1))
      case measure => have := H2.out; omega
      case rel => exact ⟨kk + 1, v6, ⟨⟨by omega, by omega, HB6.out, by rw [HS.out]; exact HO6.out⟩⟩, rfl, by rw [HI.out]⟩
    · have hltz : ¬ (kk : Int) < (l0.length : Int) := by omega
      obtain rfl : kk = l0.length := by omega
      rw [List.take_length] at h5
      obtain ⟨g, cap, ev, hg, hc, hcs⟩ := str_cells h5 (by rw [List.length_map]; exact HN.out)
      rw [List.length_map] at ev hc
      subst ev
      have J := Aside0.mk (join_c g cap l0 wr hcs hg HE.out hc HL.out)
      have H4 := Aside0.mk h4
      clear h2 h4 h5 hg hc hcs
      go_wp2_with (go_at_call 48; refine J.out.mono ?_; rintro e w7 ⟨rfl, hb⟩; have HB7 := Aside0.mk (H4.out.trans (hb.mono H4.out.size)); clear hb)
      go_ret
      exact ⟨rfl, HB7.out⟩

theorem info3 : (Tryz.prog.info? 3).map (fun i => (i.zero, i.size, i.bytes)) = some (some (.int .i64 0), 1, 8) := by kernel_rfl
/-- The number that Atoi hands back, the error left aside. -/
def val (s : ByteArray) : Int := match Lib.atoiAll s.data.toList with | .ok v => v | .range => Lib.atoiSat s.data.toList | _ => 0
/-- What the walks read of the library's variables: each cell holds some value of its kind. -/
structure Vars (w : World) : Prop where
  len : ∃ m, w.cell? ⟨0, 0, none⟩ = some (.int .i64 m)
  syn : ∃ t p, w.cell? ⟨2, 0, none⟩ = some (.iface t p)
  ran : ∃ t p, w.cell? ⟨3, 0, none⟩ = some (.iface t p)
theorem Vars.on {w w1 : World} (h : Vars w) (hb : Below w.heap.size w w1) : Vars w1 := by
  obtain ⟨⟨m, h1⟩, ⟨t, p, h2⟩, ⟨u, q, h3⟩⟩ := h
  exact ⟨⟨m, pw_cell_below hb h1⟩, ⟨t, p, pw_cell_below hb h2⟩, ⟨u, q, pw_cell_below hb h3⟩⟩

theorem atoi_c (s : ByteArray) (hs : s.size ≤ 281474976710656) (w : World) (hv : Vars w) :
    Calls Tryz.prog 65 #[.string s] w fun e w' => ∃ v, e = .returned (.tuple #[.int .i64 (val s), v]) ∧ Below w.heap.size w w' := by
  obtain ⟨_, ⟨t, p, h2⟩, ⟨u, q, h3⟩⟩ := hv
  unfold val
  cases h : Lib.atoiAll s.data.toList
  · rename_i v
    refine (Any.strconv_Atoi_ok lay_atoi s (by omega) v h w).mono fun e w' hh => ?_
    obtain ⟨rfl, hw⟩ := hh
    refine ⟨_, rfl, ?_⟩
    rcases hw with rfl | ⟨x, rfl⟩
    · exact Below.refl _ _
    · exact Lib.bytesWorld_below _ _ _
  · refine (Any.strconv_Atoi_syntax lay_atoi s hs h (.iface t p) w h2 (Or.inr ⟨_, _, rfl⟩)).mono fun e w' hh => ?_
    obtain ⟨n, rfl, _, _, hb⟩ := hh
    exact ⟨_, rfl, hb⟩
  · refine (Any.strconv_Atoi_range lay_atoi s hs h (.iface u q) w h3 (Or.inr ⟨_, _, rfl⟩)).mono fun e w' hh => ?_
    obtain ⟨n, rfl, _, _, hb⟩ := hh
    exact ⟨_, rfl, hb⟩

set_option maxHeartbeats 4000000 in
set_option maxRecDepth 100000 in
theorem numberOf_c (s : ByteArray) (hs : s.size ≤ 281474976710656) (w : World) (hv : Vars w) :
    Calls Tryz.prog 49 #[.string s] w fun e w' => e = .returned (.int .i64 (val s)) ∧ Below w.heap.size w w' := by
  have C := Aside0.mk (atoi_c s hs w hv)
  clear hs hv
  go_enter Tryz.func49, Tryz.ntmps49
  go_wp2_with (go_at_call 65; refine C.out.mono ?_; rintro e w1 ⟨v, rfl, hb⟩; have HB1 := Aside0.mk hb; clear hb)
  go_ret
  exact ⟨rfl, HB1.out⟩

theorem vsnoc (l : List ByteArray) (k : Nat) (h : k < l.length) : (l.take (k + 1)).map val = (l.take k).map val ++ [val (rdOf ByteArray.empty l (k : Int))] := by
  have e : rdOf ByteArray.empty l (k : Int) = l[k] := by simp [rdOf, List.getD, h]
  rw [List.take_succ_eq_append_getElem h, List.map_append, e]
  rfl
theorem rdOf_mem (l : List ByteArray) (k : Nat) (h : k < l.length) : rdOf ByteArray.empty l (k : Int) ∈ l := by
  have e : rdOf ByteArray.empty l (k : Int) = l[k] := by simp [rdOf, List.getD, h]
  rw [e]; exact List.getElem_mem h

set_option maxHeartbeats 4000000 in
set_option maxRecDepth 100000 in
theorem numbersOf_c (A0 : Option Addr) (c0 : Nat) (l0 : List ByteArray) (w : World) (hr0 : Kd.C Kd.string w A0 l0.length l0) (hc0 : l0.length ≤ c0) (hlen : l0.length ≤ 1000) (hx : ∀ x ∈ l0, x.size ≤ 281474976710656) (hv : Vars w) :
    Calls Tryz.prog 31 #[.slice A0 l0.length c0] w fun e w' => ∃ v, e = .returned v ∧ Kd.R (Kd.int .i64) 3 w' w.heap.size (fun _ => True) v (l0.map val) ∧ Below w.heap.size w w' := by
  have HR0 := Aside0.mk hr0
  have HX := Aside0.mk hx
  have HV := Aside0.mk hv
  have HE := Aside0.mk hlen
  clear hr0 hx hv hlen
  go_enter Tryz.func31, Tryz.ntmps31
  go_wp2_with (first | ((with_reducible refine gate_dst (N := 6) rfl ?_); refine Kd.R_lit (Kd.int .i64) w.heap.size 3 ?hg (N := 6) ?hd (xs := ([] : List Int)) (inner := []) (ok := fun _ => True) (okp := fun _ => True) ?hr ?hp (fun _ hk => hk) trivial (Below.refl w.heap.size w) (Nat.le_refl _) (by simp) ?_; (case hd => rfl); (case hg => rfl); (case hr => first | (go_simp; done) | (go_simp; rfl)); (case hp => exact (Reps.none _ _)); intro v6 w1 ho hb hg_ hnew_; clear hg_ hnew_; have HO1 := Aside0.mk ho; have HB1 := Aside0.mk hb; clear hb ho))
  go_loopg [3, 9] l0.length (fun gg s3 s9 wr => ∃ (kk : Nat) (v : Value), Aside0 (kk ≤ l0.length ∧ l0.length - kk ≤ gg ∧ Below w.heap.size w wr ∧ Kd.R (Kd.int .i64) 3 wr w.heap.size (fun _ => True) v ((l0.take kk).map val)) ∧ s3 = v ∧ s9 = .int .i64 kk)
  case atStart => exact ⟨0, v6, ⟨⟨Nat.zero_le _, by omega, HB1.out, by rw [List.take_zero]; exact HO1.out⟩⟩, rfl, rfl⟩
  case round =>
    obtain ⟨kk, v, HK, rfl, rfl⟩ := hrel
    obtain ⟨h1, h2, h4, h5⟩ := HK.out
    clear HK
    by_cases hlt : kk < l0.length
    · have hltz : (kk : Int) < (l0.length : Int) := by omega
      obtain ⟨ad, ea, hx0⟩ := Kd.at_string HR0.out (kk : Int) (by omega) hltz
      subst ea
      rw [Int.toNat_natCast] at hx0
      replace hx0 := pw_cell_below h4 hx0
      have HS := Aside0.mk (vsnoc l0 kk hlt)
      have HM := Aside0.mk (HX.out _ (rdOf_mem l0 kk hlt))
      have HZ := Aside0.mk (show (((l0.take kk).map val).length + 1) * 8 ≤ 140737488355328 by rw [List.length_map, List.length_take]; have := HE.out; omega)
      have HI := Aside0.mk (show wrap64 ((kk : Int) + 1) = ((kk + 1 : Nat) : Int) by have := HE.out; unfold wrap64; omega)
      have H2 := Aside0.mk h2
      have H4 := Aside0.mk h4
      have H5 := Aside0.mk h5
      clear h2 h4 h5
      generalize (l0.take kk).map val = ps at *
      generalize rdOf ByteArray.empty l0 (kk : Int) = x at *
      go_wp2_with (first
        | (go_at_call 49; refine (numberOf_c x HM.out _ (HV.out.on H4.out)).mono ?_; rintro e w5 ⟨rfl, hb⟩; have HB5 := Aside0.mk (H4.out.trans (hb.mono H4.out.size)); have HO5 := Aside0.mk (Kd.R_below H5.out hb); clear hb)
        | ((with_reducible refine gate_builtin (b := .append) (xs := #[.tmp 13, .tmp 16]) rfl ?_); at_builtin; refine Kd.R_append (Kd.int .i64) (w0 := w) w.heap.size rfl (.tmp 13) (.tmp 16) 24 3 (.int .i64 0) 8 rfl Tryz.underlying24 info3 rfl (by decide) (by omega) _ ps (val x) [.int .i64 (val x)] (fun _ => True) (fun _ => False) rfl rfl rfl (fun _ h => h.elim) (fun _ _ => trivial) HO5.out HB5.out HB5.out.size HZ.out ?_; intro v6 w6 ho hb hg hat; have HO6 := Aside0.mk ho; have HB6 := Aside0.mk hb; clear ho hb hg hat))
      go_roundg (l0.length - (kk + 1))
      case measure => have := H2.out; omega
      case rel => exact ⟨kk + 1, v6, ⟨⟨by omega, by omega, HB6.out, by rw [HS.out]; exact HO6.out⟩⟩, rfl, by rw [HI.out]⟩
    · have hltz : ¬ (kk : Int) < (l0.length : Int) := by omega
      obtain rfl : kk = l0.length := by omega
      rw [List.take_length] at h5
      have H4 := Aside0.mk h4
      have H5 := Aside0.mk h5
      clear h2 h4 h5
      go_wp2
      go_ret
      exact ⟨_, rfl, H5.out, H4.out⟩

/-! SplitN -/
/-- The pieces between the spaces, 42 at most. -/
def pieces (s : ByteArray) : List ByteArray := Lib.splitB ⟨#[32]⟩ 0 (min 42 (s.size + 1) - 1) s
theorem pieces_len (s : ByteArray) : (pieces s).length ≤ min 42 (s.size + 1) := by
  have := Lib.splitB_length_le ⟨#[32]⟩ 0 (min 42 (s.size + 1) - 1) s
  unfold pieces; omega
theorem cells_C (l : List ByteArray) (N : Nat) (w : World) (hl : l.length ≤ 1000) : Kd.C Kd.string (w.alloc (.cells (Lib.cellsOf l N) 9)) (some ⟨w.heap.size, 0, none⟩) l.length l := by
  refine Kd.C_of_reads (enc := Value.string) (d := ByteArray.empty) (h1 := fun _ => rfl) ⟨rfl, by omega, fun _ => ⟨_, rfl, fun j hj => ?_⟩⟩
  rw [add_plain]
  refine (blk_cell (blk_new w _) j).trans ?_
  simp [Lib.cellsOf, List.getElem?_append, hj, List.getD]
theorem splitN_c (s : ByteArray) (hs : s.size < 4294967281) (w : World) (hv : Vars w) :
    Calls Tryz.prog 32 #[.string s, .string ⟨#[32]⟩, .int .i64 42] w fun e w' => ∃ A c, e = .returned (.slice A (pieces s).length c) ∧ (pieces s).length ≤ c ∧ Kd.C Kd.string w' A (pieces s).length (pieces s) ∧ Below w.heap.size w w' := by
  obtain ⟨⟨m, h1⟩, _, _⟩ := hv
  refine (Any.strings_SplitN { lay_splitn with } lay_splitn.i9 s ⟨#[32]⟩ 42 m w hs h1 (by decide) (by decide) (by decide)).mono fun e w' hh => ?_
  obtain ⟨rfl, rfl⟩ := hh
  exact ⟨_, _, rfl, pieces_len s, cells_C _ _ _ (by have := pieces_len s; unfold pieces at this; omega), below_alloc (Below.refl _ _) _⟩
theorem row_of {W : World} {base : Nat} {ok : Nat → Prop} {v : Value} {l : List Int} (h : Kd.R (Kd.int .i64) 3 W base ok v l) : ∃ A c, v = .slice A l.length c ∧ l.length ≤ c ∧ Kd.C (Kd.int .i64) W A l.length l := by
  obtain ⟨A, c, rfl⟩ := Kd.R_slice h
  exact ⟨A, c, rfl, (Kd.R_reads' h).2.1, (Kd.R_reads' h).2.2⟩
/-- The numbers that the program reads out of a text. -/
def nums (s : ByteArray) : List Int := (pieces s).map val
theorem Tab.on {w w1 : World} (h : Tab w.heap.size w) (hb : Below w.heap.size w w1) : Tab w1.heap.size w1 := fun w' h' => h w' (hb.trans (h'.mono hb.size))
theorem extract_size (s : ByteArray) (a b : Nat) : (s.extract a b).size ≤ s.size := by
  rw [ByteArray.size_extract]; omega
theorem split_size (n : Nat) : ∀ (s : ByteArray), ∀ x ∈ Lib.splitB ⟨#[32]⟩ 0 n s, x.size ≤ s.size := by
  induction n with
  | zero => intro s x hx; rw [Lib.splitB_zero] at hx; simp at hx; subst hx; exact Nat.le_refl _
  | succ n ih =>
    intro s x hx
    unfold Lib.splitB at hx
    split at hx
    · simp at hx; subst hx; exact Nat.le_refl _
    · rcases List.mem_cons.1 hx with rfl | h
      · exact extract_size _ _ _
      · exact Nat.le_trans (ih _ x h) (extract_size _ _ _)

theorem split_p (s : ByteArray) (ps : List ByteArray) (hp : pieces s = ps) (hs : s.size < 4294967281) (w : World) (hv : Vars w) :
    Calls Tryz.prog 32 #[.string s, .string ⟨#[32]⟩, .int .i64 42] w fun e w' => ∃ A c, e = .returned (.slice A ps.length c) ∧ ps.length ≤ c ∧ Kd.C Kd.string w' A ps.length ps ∧ Below w.heap.size w w' := by
  subst hp; exact splitN_c s hs w hv
theorem numbers_p (s : ByteArray) (ps : List ByteArray) (ns : List Int) (hp : pieces s = ps) (hn : ps.map val = ns) (hs : s.size ≤ 1048576) (A0 : Option Addr) (c0 : Nat) (w : World) (hr0 : Kd.C Kd.string w A0 ps.length ps) (hc0 : ps.length ≤ c0) (hv : Vars w) :
    Calls Tryz.prog 31 #[.slice A0 ps.length c0] w fun e w' => ∃ v, e = .returned v ∧ Kd.R (Kd.int .i64) 3 w' w.heap.size (fun _ => True) v ns ∧ Below w.heap.size w w' := by
  subst hn
  refine numbersOf_c A0 c0 ps w hr0 hc0 (by have := pieces_len s; rw [hp] at this; omega) (fun x hx => ?_) hv
  have := split_size _ s x (by unfold pieces at hp; rw [hp]; exact hx)
  omega


/-- What the library's functions read beside their arguments: the variables, and the table of the powers of ten. -/
structure LibOk (w : World) : Prop where
  vars : Vars w
  tab : Tab w.heap.size w
theorem LibOk.on {w w1 : World} (h : LibOk w) (hb : Below w.heap.size w w1) : LibOk w1 := ⟨h.vars.on hb, Tab.on h.tab hb⟩
/-- A list that may be told as a text. -/
def Fit (l : List Int) : Prop := 0 < l.length ∧ l.length ≤ 1000 ∧ (∀ x ∈ l, 1 ≤ x ∧ x ≤ 1000000) ∧ (Lib.join (l.map Lib.itoa) [32]).length ≤ 140737488355328
instance (l : List Int) : Decidable (Fit l) := by unfold Fit; exact inferInstance
end Go.Proofs.YtlefjgpkabijdaaGreatDoor.CW
