/- ParseChain of the program, walked. -/
import Derived.Test.YtlefjgpkabijdaaDoorPW
namespace Go.Proofs.YtlefjgpkabijdaaDoor.PC
set_option linter.unusedVariables false
set_option linter.unusedSimpArgs false
open Go.RowKit Go.Proofs.YtlefjgpkabijdaaDoorW.PrintWords Go.Proofs.YtlefjgpkabijdaaDoorW.PrintLast Go.Proofs.YtlefjgpkabijdaaDoorW.PrintMore Go.Proofs.YtlefjgpkabijdaaDoorV Go.Proofs.YtlefjgpkabijdaaDoorL Go.Proofs.YtlefjgpkabijdaaDoor.CT Go.Proofs.YtlefjgpkabijdaaDoor.PW

theorem row_of {W : World} {base : Nat} {ok : Nat → Prop} {v : Value} {l : List Int} (h : Kd.R (Kd.int .i64) 3 W base ok v l) : ∃ A c, v = .slice A l.length c ∧ l.length ≤ c ∧ Kd.C (Kd.int .i64) W A l.length l := by
  obtain ⟨A, c, rfl⟩ := Kd.R_slice h
  exact ⟨A, c, rfl, (Kd.R_reads' h).2.1, (Kd.R_reads' h).2.2⟩
/-- The numbers that the program reads out of a text. -/
def nums (s : ByteArray) : List Int := (pieces s).map val
theorem Tab.on {w w1 : World} (h : Tab w.heap.size w) (hb : Below w.heap.size w w1) : Tab w1.heap.size w1 := fun w' h' => h w' (hb.trans (h'.mono hb.size))
theorem extract_size (s : ByteArray) (a b : Nat) : (s.extract a b).size ≤ s.size := by
  rw [ByteArray.size_extract]; omega
theorem split_size (n : Nat) : ∀ (s : ByteArray), ∀ x ∈ Lib.splitB ⟨#[32]⟩ 0 n s, x.size ≤ s.size := by
  induction n with
  | zero => intro s x hx; rw [Lib.splitB_zero] at hx; simp at hx; subst hx; exact Nat.le_refl _
  | succ n ih =>
    intro s x hx
    unfold Lib.splitB at hx
    split at hx
    · simp at hx; subst hx; exact Nat.le_refl _
    · rcases List.mem_cons.1 hx with rfl | h
      · exact extract_size _ _ _
      · exact Nat.le_trans (ih _ x h) (extract_size _ _ _)

theorem split_p (s : ByteArray) (ps : List ByteArray) (hp : pieces s = ps) (hs : s.size < 4294967281) (w : World) (hv : Vars w) :
    Calls Tryd.prog 21 #[.string s, .string ⟨#[32]⟩, .int .i64 42] w fun e w' => ∃ A c, e = .returned (.slice A ps.length c) ∧ ps.length ≤ c ∧ Kd.C Kd.string w' A ps.length ps ∧ Below w.heap.size w w' := by
  subst hp; exact splitN_c s hs w hv
theorem numbers_p (s : ByteArray) (ps : List ByteArray) (ns : List Int) (hp : pieces s = ps) (hn : ps.map val = ns) (hs : s.size ≤ 1048576) (A0 : Option Addr) (c0 : Nat) (w : World) (hr0 : Kd.C Kd.string w A0 ps.length ps) (hc0 : ps.length ≤ c0) (hv : Vars w) :
    Calls Tryd.prog 20 #[.slice A0 ps.length c0] w fun e w' => ∃ v, e = .returned v ∧ Kd.R (Kd.int .i64) 3 w' w.heap.size (fun _ => True) v ns ∧ Below w.heap.size w w' := by
  subst hn
  refine numbersOf_c A0 c0 ps w hr0 hc0 (by have := pieces_len s; rw [hp] at this; omega) (fun x hx => ?_) hv
  have := split_size _ s x (by unfold pieces at hp; rw [hp]; exact hx)
  omega

set_option maxHeartbeats 4000000 in
set_option maxRecDepth 100000 in
theorem no1 (k : Nat) (s : ByteArray) (ps : List ByteArray) (ns : List Int) (hp : pieces s = ps) (hns : ps.map val = ns) (hs : s.size ≤ 1048576) (w : World) (hv : Vars w) (h : MFnExactParseChain.impl_IsChain.f k ns = some false) :
    Calls Tryd.prog 10 #[.string s] w fun e w' => e = .returned (.tuple #[.slice none 0 0, .bool false]) ∧ Below w.heap.size w w' := by
  have HS := Aside0.mk hs
  have HP := Aside0.mk hp
  have HM := Aside0.mk hns
  have HV := Aside0.mk hv
  have HI := Aside0.mk h
  clear hp hns hs hv h
  go_enter Tryd.func10, Tryd.ntmps10
  go_wp2_with (first
    | (go_at_call 21; refine (split_p s ps HP.out (by have := HS.out; omega) w HV.out).mono ?_; rintro e w1 ⟨A1, c1, rfl, hc, hC, hb⟩; have B1 := Aside0.mk hb; have C1 := Aside0.mk hC; have E1 := Aside0.mk hc; clear hb hC hc)
    | (go_at_call 20; refine (numbers_p s ps ns HP.out HM.out HS.out A1 c1 w1 C1.out E1.out (HV.out.on B1.out)).mono ?_; rintro e w2 ⟨v2, rfl, ho, hb⟩; obtain ⟨A2, c2, rfl, hc2, hC2⟩ := row_of ho; have B2 := Aside0.mk (B1.out.trans (hb.mono B1.out.size)); have C2 := Aside0.mk hC2; have E2 := Aside0.mk hc2; clear ho hb hC2 hc2)
    | (go_at_call 15; refine (MFnExactParseChain.impl_IsChain.calls k A2 c2 ns false w2 C2.out E2.out HI.out).mono ?_; rintro e w3 ⟨rfl, hb⟩; have B3 := Aside0.mk (B2.out.trans (hb.mono B2.out.size)); clear hb))
  go_ret2
  exact ⟨rfl, B3.out⟩

set_option maxHeartbeats 4000000 in
set_option maxRecDepth 100000 in
theorem no2 (k : Nat) (s T : ByteArray) (ps : List ByteArray) (ns : List Int) (hp : pieces s = ps) (hns : ps.map val = ns) (hs : s.size ≤ 1048576) (w : World) (hv : Vars w) (h : MFnExactParseChain.impl_IsChain.f k ns = some true) (hn : 0 < ns.length) (hlen : ns.length ≤ 1000) (hx : ∀ x ∈ ns, 1 ≤ x ∧ x ≤ 1000000)
    (hl : (Lib.join (ns.map Lib.itoa) [32]).length ≤ 140737488355328) (htab : Tab w.heap.size w) (hT : text ns = T) (c0 : (T.toList == s.toList) = false) :
    Calls Tryd.prog 10 #[.string s] w fun e w' => e = .returned (.tuple #[.slice none 0 0, .bool false]) ∧ Below w.heap.size w w' := by
  have c0' : (T.toList != s.toList) = true := by simp [bne, c0]
  have HS := Aside0.mk hs
  have HP := Aside0.mk hp
  have HM := Aside0.mk hns
  have HV := Aside0.mk hv
  have HI := Aside0.mk h
  have HN := Aside0.mk hn
  have HE := Aside0.mk hlen
  have HX := Aside0.mk hx
  have HL := Aside0.mk hl
  have HT := Aside0.mk htab
  have HQ := Aside0.mk hT
  clear hp hns hs hv h hn hlen hx hl htab hT
  go_enter Tryd.func10, Tryd.ntmps10
  go_wp2_with (first
    | (go_at_call 21; refine (split_p s ps HP.out (by have := HS.out; omega) w HV.out).mono ?_; rintro e w1 ⟨A1, c1, rfl, hc, hC, hb⟩; have B1 := Aside0.mk hb; have C1 := Aside0.mk hC; have E1 := Aside0.mk hc; clear hb hC hc)
    | (go_at_call 20; refine (numbers_p s ps ns HP.out HM.out HS.out A1 c1 w1 C1.out E1.out (HV.out.on B1.out)).mono ?_; rintro e w2 ⟨v2, rfl, ho, hb⟩; obtain ⟨A2, c2, rfl, hc2, hC2⟩ := row_of ho; have B2 := Aside0.mk (B1.out.trans (hb.mono B1.out.size)); have C2 := Aside0.mk hC2; have E2 := Aside0.mk hc2; clear ho hb hC2 hc2)
    | (go_at_call 15; refine (MFnExactParseChain.impl_IsChain.calls k A2 c2 ns true w2 C2.out E2.out HI.out).mono ?_; rintro e w3 ⟨rfl, hb⟩; have B3 := Aside0.mk (B2.out.trans (hb.mono B2.out.size)); have C3 := Aside0.mk (Kd.C_below C2.out hb); clear hb)
    | (go_at_call 16; refine (chainText_c A2 c2 ns w3 C3.out E2.out HN.out HE.out HX.out HL.out (Tab.on HT.out B3.out)).mono ?_; rintro e w4 ⟨rfl, hb⟩; rw [HQ.out]; have B4 := Aside0.mk (B3.out.trans (hb.mono B3.out.size)); clear hb))
  go_ret2
  exact ⟨rfl, B4.out⟩

set_option maxHeartbeats 4000000 in
set_option maxRecDepth 100000 in
theorem yes (k : Nat) (s T : ByteArray) (ps : List ByteArray) (ns : List Int) (hp : pieces s = ps) (hns : ps.map val = ns) (hs : s.size ≤ 1048576) (w : World) (hv : Vars w) (h : MFnExactParseChain.impl_IsChain.f k ns = some true) (hn : 0 < ns.length) (hlen : ns.length ≤ 1000) (hx : ∀ x ∈ ns, 1 ≤ x ∧ x ≤ 1000000)
    (hl : (Lib.join (ns.map Lib.itoa) [32]).length ≤ 140737488355328) (htab : Tab w.heap.size w) (hT : text ns = T) (c0 : (T.toList == s.toList) = true) :
    Calls Tryd.prog 10 #[.string s] w fun e w' => ∃ v, e = .returned (.tuple #[v, .bool true]) ∧ Kd.R (Kd.int .i64) 3 w' w.heap.size (fun _ => True) v ns ∧ Below w.heap.size w w' := by
  have c0' : (T.toList != s.toList) = false := by simp [bne, c0]
  have HS := Aside0.mk hs
  have HP := Aside0.mk hp
  have HM := Aside0.mk hns
  have HV := Aside0.mk hv
  have HI := Aside0.mk h
  have HN := Aside0.mk hn
  have HE := Aside0.mk hlen
  have HX := Aside0.mk hx
  have HL := Aside0.mk hl
  have HT := Aside0.mk htab
  have HQ := Aside0.mk hT
  clear hp hns hs hv h hn hlen hx hl htab hT
  go_enter Tryd.func10, Tryd.ntmps10
  go_wp2_with (first
    | (go_at_call 21; refine (split_p s ps HP.out (by have := HS.out; omega) w HV.out).mono ?_; rintro e w1 ⟨A1, c1, rfl, hc, hC, hb⟩; have B1 := Aside0.mk hb; have C1 := Aside0.mk hC; have E1 := Aside0.mk hc; clear hb hC hc)
    | (go_at_call 20; refine (numbers_p s ps ns HP.out HM.out HS.out A1 c1 w1 C1.out E1.out (HV.out.on B1.out)).mono ?_; rintro e w2 ⟨v2, rfl, ho, hb⟩; have O2 := Aside0.mk (Kd.R_lower ho B1.out.size); obtain ⟨A2, c2, rfl, hc2, hC2⟩ := row_of ho; have B2 := Aside0.mk (B1.out.trans (hb.mono B1.out.size)); have C2 := Aside0.mk hC2; have E2 := Aside0.mk hc2; clear ho hb hC2 hc2)
    | (go_at_call 15; refine (MFnExactParseChain.impl_IsChain.calls k A2 c2 ns true w2 C2.out E2.out HI.out).mono ?_; rintro e w3 ⟨rfl, hb⟩; have B3 := Aside0.mk (B2.out.trans (hb.mono B2.out.size)); have C3 := Aside0.mk (Kd.C_below C2.out hb); have O3 := Aside0.mk (Kd.R_below O2.out hb); clear hb)
    | (go_at_call 16; refine (chainText_c A2 c2 ns w3 C3.out E2.out HN.out HE.out HX.out HL.out (Tab.on HT.out B3.out)).mono ?_; rintro e w4 ⟨rfl, hb⟩; rw [HQ.out]; have B4 := Aside0.mk (B3.out.trans (hb.mono B3.out.size)); have O4 := Aside0.mk (Kd.R_below O3.out hb); clear hb))
  go_ret2
  exact ⟨_, rfl, O4.out, B4.out⟩
end Go.Proofs.YtlefjgpkabijdaaDoor.PC
