/- chainText: the numbers of a list as a text, walked over the shelf's Itoa and Join. -/
import Derived.Test.YtlefjgpkabijdaaDoorV
import Derived.Test.YtlefjgpkabijdaaDoorL
import Derived.Test.YtlefjgpkabijdaaDoorMFnExactChainTextx
import Derived.Lib.AppendIntMem
namespace Go.Proofs.YtlefjgpkabijdaaDoor.CT
set_option linter.unusedVariables false
set_option linter.unusedSimpArgs false
open Go.RowKit Go.Proofs.YtlefjgpkabijdaaDoorW.PrintWords Go.Proofs.YtlefjgpkabijdaaDoorW.PrintLast Go.Proofs.YtlefjgpkabijdaaDoorW.PrintMore Go.Proofs.YtlefjgpkabijdaaDoorV Go.Proofs.YtlefjgpkabijdaaDoorL

/-- The numeral of a number, as bytes. -/
def num (x : Int) : ByteArray := ⟨(Lib.itoa x).toArray⟩
/-- The numerals of a list, a space between them. -/
def text (l : List Int) : ByteArray := ⟨(Lib.join (l.map Lib.itoa) [32]).toArray⟩
abbrev Tab (B : Nat) (w : World) : Prop := Lib.TabBelow Tryd.prog B w "internal/strconv.uint64pow10" .u64 Lib.pow10Tab
theorem info9 : (Tryd.prog.info? 9).map (fun i => (i.zero, i.size, i.bytes)) = some (some (.string ⟨#[]⟩), 1, 16) := by kernel_rfl
theorem extra : Builder.Extra Tryd.prog lay_join_ren where
  sizeBuilder := by kernel_rfl
  liesBuilder := by kernel_rfl
  t5 := Tryd.underlying5
  a5 := Tryd.isAgg5
  z5 := Tryd.sizeOf5
  v5 := Tryd.zeroValue5
  infoByte := by kernel_rfl
  cellsByte := by kernel_rfl
  sizeByte := by kernel_rfl
  neB5 := by decide
theorem itoa_c (n : Int) (h0 : 1 ≤ n) (h1 : n ≤ 1000000) (B : Nat) (w : World) (hB : B ≤ w.heap.size) (htab : Tab B w) :
    Calls Tryd.prog 28 #[.int .i64 n] w fun e w' => e = .returned (.string (num n)) ∧ Below w.heap.size w w' :=
  (Any.strconv_Itoa lay_itoa n (by omega) (by omega) w htab.here).mono fun e w' h => by
    obtain ⟨he, k, os, rfl⟩ := h
    exact ⟨he, Lib.below_grow _ _ (Nat.le_refl _) _ _⟩
theorem map_num (l : List Int) : (l.map num).map (·.data.toList) = l.map Lib.itoa := by
  rw [List.map_map]
  exact List.map_congr_left fun x _ => by simp [num]
theorem join_c (g cap : Nat) (l : List Int) (w : World) (hc : ∀ (j : Nat) x, (l.map num)[j]? = some x → w.cell? ⟨g, 0 + j, none⟩ = some (.string x)) (hg : g < w.heap.size) (hN : l.length ≤ 1000) (hcap : l.length ≤ cap) (hl : (Lib.join (l.map Lib.itoa) [32]).length ≤ 140737488355328) :
    Calls Tryd.prog 29 #[.slice (some ⟨g, 0, none⟩) l.length cap, .string ⟨#[32]⟩] w fun e w' => e = .returned (.string (text l)) ∧ Below w.heap.size w w' := by
  have h := Any.strings_Join lay_join extra g 0 cap (l.map num) ⟨#[32]⟩ w hc hg (by rw [List.length_map]; omega) (by rw [List.length_map]; exact hcap) (by rw [map_num]; exact hl)
  rw [map_num, List.length_map] at h
  exact h
theorem str_cells {e base : Nat} {W : World} {ok : Nat → Prop} {v : Value} {xs : List ByteArray} (h : Kd.string.R e W base ok v xs) (hn : 0 < xs.length) :
    ∃ g cap, v = .slice (some ⟨g, 0, none⟩) xs.length cap ∧ g < W.heap.size ∧ xs.length ≤ cap ∧ ∀ (j : Nat) x, xs[j]? = some x → W.cell? ⟨g, 0 + j, none⟩ = some (.string x) := by
  have h' := h
  obtain ⟨_, inner, hown, hr⟩ := h'
  rcases hown.2 with ⟨_, h0⟩ | ⟨g, cap, cur, rfl, hg, hh, hc, _⟩
  · omega
  · refine ⟨g, cap, rfl, blk_lt hh, hc, fun j x hx => ?_⟩
    have hj : j < xs.length := by
      rcases Nat.lt_or_ge j xs.length with h | h
      · exact h
      · rw [List.getElem?_eq_none h] at hx; cases hx
    have := (Kd.R_celln (enc := Value.string) ByteArray.empty h (j : Int) (by omega) (by omega)).1
    rw [Int.toNat_natCast] at this
    rw [Nat.zero_add, this]
    simp [rdOf, List.getD, hx]
theorem snoc (l : List Int) (k : Nat) (h : k < l.length) : (l.take (k + 1)).map num = (l.take k).map num ++ [num (rd l (k : Int))] := by
  have e : rd l (k : Int) = l[k] := by simp [rd, List.getD, h]
  rw [List.take_succ_eq_append_getElem h, List.map_append, e]
  rfl
theorem rd_mem (l : List Int) (k : Nat) (h : k < l.length) : rd l (k : Int) ∈ l := by
  have e : rd l (k : Int) = l[k] := by simp [rd, List.getD, h]
  rw [e]; exact List.getElem_mem h

set_option maxHeartbeats 4000000 in
set_option maxRecDepth 100000 in
theorem chainText_c (A0 : Option Addr) (c0 : Nat) (l0 : List Int) (w : World) (hr0 : Kd.C (Kd.int .i64) w A0 l0.length l0) (hc0 : l0.length ≤ c0) (hn : 0 < l0.length) (hlen : l0.length ≤ 1000) (hx : ∀ x ∈ l0, 1 ≤ x ∧ x ≤ 1000000)
    (hl : (Lib.join (l0.map Lib.itoa) [32]).length ≤ 140737488355328) (htab : Tab w.heap.size w) :
    Calls Tryd.prog 16 #[.slice A0 l0.length c0] w fun e w' => e = .returned (.string (text l0)) ∧ Below w.heap.size w w' := by
  have HR0 := Aside0.mk hr0
  have HX := Aside0.mk hx
  have HL := Aside0.mk hl
  have HT := Aside0.mk htab
  have HN := Aside0.mk hn
  have HE := Aside0.mk hlen
  clear hr0 hx hl htab hn hlen
  go_enter Tryd.func16, Tryd.ntmps16
  go_wp2_with (first | ((with_reducible refine gate_dst (N := 6) rfl ?_); refine Kd.R_lit Kd.string w.heap.size 9 ?hg (N := 6) ?hd (xs := ([] : List ByteArray)) (inner := []) (ok := fun _ => True) (okp := fun _ => True) ?hr ?hp (fun _ hk => hk) trivial (Below.refl w.heap.size w) (Nat.le_refl _) (by simp) ?_; (case hd => rfl); (case hg => rfl); (case hr => first | (go_simp; done) | (go_simp; rfl)); (case hp => exact (Reps.none _ _)); intro v6 w1 ho hb hg_ hnew_; clear hg_ hnew_; have HO1 := Aside0.mk ho; have HB1 := Aside0.mk hb; clear hb ho))
  go_loopg [3, 9] l0.length (fun gg s3 s9 wr => ∃ (kk : Nat) (v : Value), Aside0 (kk ≤ l0.length ∧ l0.length - kk ≤ gg ∧ Below w.heap.size w wr ∧ Kd.R Kd.string 9 wr w.heap.size (fun _ => True) v ((l0.take kk).map num)) ∧ s3 = v ∧ s9 = .int .i64 kk)
  case atStart => exact ⟨0, v6, ⟨⟨Nat.zero_le _, by omega, HB1.out, by rw [List.take_zero]; exact HO1.out⟩⟩, rfl, rfl⟩
  case round =>
    obtain ⟨kk, v, HK, rfl, rfl⟩ := hrel
    obtain ⟨h1, h2, h4, h5⟩ := HK.out
    clear HK
    by_cases hlt : kk < l0.length
    · have hltz : (kk : Int) < (l0.length : Int) := by omega
      obtain ⟨ad, ea, hx0⟩ := Kd.at_int HR0.out (kk : Int) (by omega) hltz
      subst ea
      rw [Int.toNat_natCast] at hx0
      replace hx0 := pw_cell_below h4 hx0
      have HS := Aside0.mk (snoc l0 kk hlt)
      have HM := Aside0.mk (HX.out _ (rd_mem l0 kk hlt))
      have HZ := Aside0.mk (show (((l0.take kk).map num).length + 1) * 16 ≤ 140737488355328 by rw [List.length_map, List.length_take]; have := HE.out; omega)
      have HI := Aside0.mk (show wrap64 ((kk : Int) + 1) = ((kk + 1 : Nat) : Int) by have := HE.out; unfold wrap64; omega)
      have H2 := Aside0.mk h2
      have H4 := Aside0.mk h4
      have H5 := Aside0.mk h5
      clear h2 h4 h5
      generalize (l0.take kk).map num = ps at *
      generalize rd l0 (kk : Int) = x at *
      go_wp2_with (first
        | (go_at_call 28; refine (itoa_c x HM.out.1 HM.out.2 w.heap.size _ H4.out.size (HT.out.on H4.out)).mono ?_; rintro e w5 ⟨rfl, hb⟩; have HB5 := Aside0.mk (H4.out.trans (hb.mono H4.out.size)); have HO5 := Aside0.mk (Kd.R_below H5.out hb); clear hb)
        | ((with_reducible refine gate_builtin (b := .append) (xs := #[.tmp 13, .tmp 16]) rfl ?_); at_builtin; refine Kd.R_append Kd.string (w0 := w) w.heap.size rfl (.tmp 13) (.tmp 16) 33 9 (.string ⟨#[]⟩) 16 rfl Tryd.underlying33 info9 rfl (by decide) (by omega) _ ps (num x) [.string (num x)] (fun _ => True) (fun _ => False) rfl rfl rfl (fun _ h => h.elim) (fun _ _ => trivial) HO5.out HB5.out HB5.out.size HZ.out ?_; intro v6 w6 ho hb hg hat; have HO6 := Aside0.mk ho; have HB6 := Aside0.mk hb; clear ho hb hg hat))
      go_roundg (l0.length - (kk + 1))
      case measure => have := H2.out; omega
      case rel => exact ⟨kk + 1, v6, ⟨⟨by omega, by omega, HB6.out, by rw [HS.out]; exact HO6.out⟩⟩, rfl, by rw [HI.out]⟩
    · have hltz : ¬ (kk : Int) < (l0.length : Int) := by omega
      obtain rfl : kk = l0.length := by omega
      rw [List.take_length] at h5
      obtain ⟨g, cap, ev, hg, hc, hcs⟩ := str_cells h5 (by rw [List.length_map]; exact HN.out)
      rw [List.length_map] at ev hc
      subst ev
      have J := Aside0.mk (join_c g cap l0 wr hcs hg HE.out hc HL.out)
      have H4 := Aside0.mk h4
      clear h2 h4 h5 hg hc hcs
      go_wp2_with (go_at_call 29; refine J.out.mono ?_; rintro e w7 ⟨rfl, hb⟩; have HB7 := Aside0.mk (H4.out.trans (hb.mono H4.out.size)); clear hb)
      go_ret
      exact ⟨rfl, HB7.out⟩

set_option maxHeartbeats 4000000 in
set_option maxRecDepth 100000 in
theorem ChainText_yes (k : Nat) (A0 : Option Addr) (c0 : Nat) (l0 : List Int) (w : World) (hr0 : Kd.C (Kd.int .i64) w A0 l0.length l0) (hc0 : l0.length ≤ c0) (h : MFnExactChainText.impl_IsChain.f k l0 = some true) (hn : 0 < l0.length) (hlen : l0.length ≤ 1000) (hx : ∀ x ∈ l0, 1 ≤ x ∧ x ≤ 1000000)
    (hl : (Lib.join (l0.map Lib.itoa) [32]).length ≤ 140737488355328) (htab : Tab w.heap.size w) :
    Calls Tryd.prog 7 #[.slice A0 l0.length c0] w fun e w' => e = .returned (.tuple #[.string (text l0), .bool true]) ∧ Below w.heap.size w w' := by
  have HR0 := Aside0.mk hr0
  have HC0 := Aside0.mk hc0
  have HX := Aside0.mk hx
  have HL := Aside0.mk hl
  have HT := Aside0.mk htab
  have HN := Aside0.mk hn
  have HE := Aside0.mk hlen
  have HI := Aside0.mk h
  clear hr0 hc0 hx hl htab hn hlen h
  go_enter Tryd.func7, Tryd.ntmps7
  go_wp2_with (first
    | (go_at_call 15; refine (MFnExactChainText.impl_IsChain.calls k A0 c0 l0 true w HR0.out HC0.out HI.out).mono ?_; rintro e w1 ⟨rfl, hb⟩; have HB1 := Aside0.mk hb; clear hb)
    | (go_at_call 16; refine (chainText_c A0 c0 l0 w1 (Kd.C_below HR0.out HB1.out) HC0.out HN.out HE.out HX.out HL.out (fun w' hb => HT.out w' (HB1.out.trans (hb.mono HB1.out.size)))).mono ?_; rintro e w2 ⟨rfl, hb⟩; have HB2 := Aside0.mk (HB1.out.trans (hb.mono HB1.out.size)); clear hb))
  go_ret2
  exact ⟨rfl, HB2.out⟩
set_option maxHeartbeats 4000000 in
set_option maxRecDepth 100000 in
theorem ChainText_no (k : Nat) (A0 : Option Addr) (c0 : Nat) (l0 : List Int) (w : World) (hr0 : Kd.C (Kd.int .i64) w A0 l0.length l0) (hc0 : l0.length ≤ c0) (h : MFnExactChainText.impl_IsChain.f k l0 = some false) :
    Calls Tryd.prog 7 #[.slice A0 l0.length c0] w fun e w' => e = .returned (.tuple #[.string ⟨#[]⟩, .bool false]) ∧ Below w.heap.size w w' := by
  have HR0 := Aside0.mk hr0
  have HC0 := Aside0.mk hc0
  have HI := Aside0.mk h
  clear hr0 hc0 h
  go_enter Tryd.func7, Tryd.ntmps7
  go_wp2_with (first
    | (go_at_call 15; refine (MFnExactChainText.impl_IsChain.calls k A0 c0 l0 false w HR0.out HC0.out HI.out).mono ?_; rintro e w1 ⟨rfl, hb⟩; have HB1 := Aside0.mk hb; clear hb))
  go_ret2
  exact ⟨rfl, HB1.out⟩
end Go.Proofs.YtlefjgpkabijdaaDoor.CT
