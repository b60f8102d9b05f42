/- The law of ChainText, walked. -/
import Derived.Test.YtlefjgpkabijdaaDoorCT
namespace Go.Proofs.YtlefjgpkabijdaaDoor.CL
set_option linter.unusedVariables false
set_option linter.unusedSimpArgs false
open Go.RowKit Go.Proofs.YtlefjgpkabijdaaDoorW.PrintWords Go.Proofs.YtlefjgpkabijdaaDoorW.PrintLast Go.Proofs.YtlefjgpkabijdaaDoorW.PrintMore Go.Proofs.YtlefjgpkabijdaaDoorV Go.Proofs.YtlefjgpkabijdaaDoorL Go.Proofs.YtlefjgpkabijdaaDoor.CT

theorem row_of {W : World} {base : Nat} {ok : Nat → Prop} {v : Value} {l : List Int} (h : Kd.R (Kd.int .i64) 3 W base ok v l) : ∃ A c, v = .slice A l.length c ∧ l.length ≤ c ∧ Kd.C (Kd.int .i64) W A l.length l := by
  obtain ⟨A, c, rfl⟩ := Kd.R_slice h
  exact ⟨A, c, rfl, (Kd.R_reads' h).2.1, (Kd.R_reads' h).2.2⟩

set_option maxHeartbeats 4000000 in
set_option maxRecDepth 100000 in
theorem law_big (A0 : Option Addr) (c0 : Nat) (l0 : List Int) (w : World) (hlen : 1048576 < l0.length) :
    Calls Tryd.prog 3 #[.slice A0 l0.length c0] w fun e w' => e = .returned (.bool true) ∧ Below w.heap.size w w' := by
  have h1 : (1048576 : Int) < (l0.length : Int) := by omega
  go_enter Tryd.func3, Tryd.ntmps3
  go_wp2
  go_ret
  exact ⟨rfl, Below.refl _ _⟩

set_option maxHeartbeats 4000000 in
set_option maxRecDepth 100000 in
theorem law_small (k : Nat) (A0 : Option Addr) (c0 : Nat) (l0 : List Int) (t : ByteArray) (b : Bool) (w : World) (hlen : l0.length ≤ 1048576) (hr0 : Kd.C (Kd.int .i64) w A0 l0.length l0) (hc0 : l0.length ≤ c0)
    (h1 : MFnExactChainText.laws_toIntS.f k l0 = some l0) (h2 : MFnExactChainText.spec_ChainText.f k l0 = some (t, b)) (h3 : MFnExactChainText.laws_eqIntS.f k l0 l0 = some true)
    (h4 : ∀ A c w', Below w.heap.size w w' → l0.length ≤ c → Kd.C (Kd.int .i64) w' A l0.length l0 → Calls Tryd.prog 7 #[.slice A l0.length c] w' fun e w'' => e = .returned (.tuple #[.string t, .bool b]) ∧ Below w'.heap.size w' w'') :
    Calls Tryd.prog 3 #[.slice A0 l0.length c0] w fun e w' => e = .returned (.bool true) ∧ Below w.heap.size w w' := by
  have hz : ¬ (1048576 : Int) < (l0.length : Int) := by omega
  have HR0 := Aside0.mk hr0
  have HC0 := Aside0.mk hc0
  have K1 := Aside0.mk h1
  have K2 := Aside0.mk h2
  have K3 := Aside0.mk h3
  have K4 := Aside0.mk h4
  clear hr0 hc0 h1 h2 h3 h4 hlen
  go_enter Tryd.func3, Tryd.ntmps3
  go_wp2_with (first
    | (go_at_call 6; (with_reducible refine (MFnExactChainText.laws_toIntS.calls k A0 c0 l0 l0 w HR0.out HC0.out K1.out).mono ?_); rintro e w1 ⟨v1, rfl, ho, hb⟩; obtain ⟨A1, c1, rfl, hc1, hC1⟩ := row_of ho; have B1 := Aside0.mk hb; have C1 := Aside0.mk hc1; have D1 := Aside0.mk hC1; clear ho hb hc1 hC1)
    | (go_at_call 5; refine (MFnExactChainText.spec_ChainText.calls k A1 c1 l0 t b w1 D1.out C1.out K2.out).mono ?_; rintro e w2 ⟨rfl, hb⟩; have B2 := Aside0.mk (B1.out.trans (hb.mono B1.out.size)); clear hb)
    | (go_at_call 6; (with_reducible refine (MFnExactChainText.laws_toIntS.calls k A0 c0 l0 l0 w2 (Kd.C_below HR0.out B2.out) HC0.out K1.out).mono ?_); rintro e w3 ⟨v3, rfl, ho, hb⟩; obtain ⟨A3, c3, rfl, hc3, hC3⟩ := row_of ho; have B3 := Aside0.mk (B2.out.trans (hb.mono B2.out.size)); have C3 := Aside0.mk hc3; have D3 := Aside0.mk hC3; clear ho hb hc3 hC3)
    | (go_at_call 7; refine (K4.out A3 c3 w3 B3.out C3.out D3.out).mono ?_; rintro e w4 ⟨rfl, hb⟩; have B4 := Aside0.mk (B3.out.trans (hb.mono B3.out.size)); have D4 := Aside0.mk (Kd.C_below D3.out hb); clear hb)
    | (go_at_call 6; (with_reducible refine (MFnExactChainText.laws_toIntS.calls k A0 c0 l0 l0 w4 (Kd.C_below HR0.out B4.out) HC0.out K1.out).mono ?_); rintro e w5 ⟨v5, rfl, ho, hb⟩; obtain ⟨A5, c5, rfl, hc5, hC5⟩ := row_of ho; have B5 := Aside0.mk (B4.out.trans (hb.mono B4.out.size)); have C5 := Aside0.mk hc5; have D5 := Aside0.mk hC5; have E5 := Aside0.mk (Kd.C_below D4.out hb); clear ho hb hc5 hC5)
    | (go_at_call 8; refine (MFnExactChainText.laws_eqIntS.calls k A3 c3 l0 A5 c5 l0 true w5 E5.out C3.out D5.out C5.out K3.out).mono ?_; rintro e w6 ⟨rfl, hb⟩; have B6 := Aside0.mk hb; clear hb))
  go_ret
  exact ⟨rfl, B5.out.trans (B6.out.below.mono B5.out.size)⟩
end Go.Proofs.YtlefjgpkabijdaaDoor.CL
