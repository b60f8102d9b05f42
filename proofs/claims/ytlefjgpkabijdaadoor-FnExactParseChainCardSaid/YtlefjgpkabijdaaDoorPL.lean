/- The law of ParseChain, walked. -/
import Derived.Test.YtlefjgpkabijdaaDoorPC
namespace Go.Proofs.YtlefjgpkabijdaaDoor.PL
set_option linter.unusedVariables false
set_option linter.unusedSimpArgs false
open Go.RowKit Go.Proofs.YtlefjgpkabijdaaDoorW.PrintWords Go.Proofs.YtlefjgpkabijdaaDoorW.PrintLast Go.Proofs.YtlefjgpkabijdaaDoorW.PrintMore Go.Proofs.YtlefjgpkabijdaaDoorV Go.Proofs.YtlefjgpkabijdaaDoorL Go.Proofs.YtlefjgpkabijdaaDoor.CT Go.Proofs.YtlefjgpkabijdaaDoor.PW Go.Proofs.YtlefjgpkabijdaaDoor.PC

theorem held_c (k : Nat) (A : Option Addr) (c : Nat) (r r2 : List Int) (m : Int) (w : World) (hl : r2.length = r.length) (hC : Kd.C (Kd.int .i64) w A r2.length r2) (hc : r.length ≤ c) (h : MFnExactParseChain.laws_heldIntS.f k r2 1 = some m) :
    Calls Tryd.prog 12 #[.slice A r.length c, .int .i64 1] w fun e w' => e = .returned (.int .i64 m) ∧ Below w.heap.size w w' := by
  rw [← hl] at hc ⊢
  exact (MFnExactParseChain.laws_heldIntS.calls k A c r2 1 m w hC hc h).mono fun e w' hh => ⟨hh.1, hh.2.below⟩
theorem eq_c (k : Nat) (A B : Option Addr) (c d : Nat) (r : List Int) (w : World) (hA : Kd.C (Kd.int .i64) w A r.length r) (hc : r.length ≤ c) (hB : Kd.C (Kd.int .i64) w B r.length r) (hd : r.length ≤ d) (h : MFnExactParseChain.laws_eqIntS.f k r r = some true) :
    Calls Tryd.prog 8 #[.slice A r.length c, .slice B r.length d] w fun e w' => e = .returned (.bool true) ∧ Below w.heap.size w w' :=
  (MFnExactParseChain.laws_eqIntS.calls k A c r B d r true w hA hc hB hd h).mono fun e w' hh => ⟨hh.1, hh.2.below⟩
theorem mark_c (k : Nat) (A : Option Addr) (c : Nat) (r r2 : List Int) (m : Int) (w0 w : World) (hB : Below w0.heap.size w0 w) (ho : Kd.R (Kd.int .i64) 3 w w0.heap.size (fun _ => True) (.slice A r.length c) r) (hl : r2.length = r.length) (h : MFnExactParseChain.laws_markIntS.f k r 1 = some (m, r2)) :
    Calls Tryd.prog 11 #[.slice A r.length c, .int .i64 1] w fun e w' => e = .returned (.int .i64 m) ∧ Kd.C (Kd.int .i64) w' A r2.length r2 ∧ Below w0.heap.size w0 w' :=
  (MFnExactParseChain.laws_markIntS.calls k (fun _ => True) (.slice A r.length c) r 1 m r2 w0 w hB ho h).mono fun e w' hh => by
    obtain ⟨he, ho', hb, _⟩ := hh
    refine ⟨he, ?_, hb⟩
    rw [← hl] at ho'
    exact (Kd.R_reads' ho').2.2

set_option maxHeartbeats 4000000 in
set_option maxRecDepth 100000 in
theorem law_big (s : ByteArray) (w : World) (hlen : 1048576 < s.size) :
    Calls Tryd.prog 4 #[.string s] w fun e w' => e = .returned (.bool true) ∧ Below w.heap.size w w' := by
  have h1 : (1048576 : Int) < (s.size : Int) := by omega
  go_enter Tryd.func4, Tryd.ntmps4
  go_wp2
  go_ret
  exact ⟨rfl, Below.refl _ _⟩

set_option maxHeartbeats 8000000 in
set_option maxRecDepth 100000 in
theorem law_small (k : Nat) (s : ByteArray) (r r2 : List Int) (m : Int) (b : Bool) (w : World) (hlen : s.size ≤ 1048576)
    (h1 : MFnExactParseChain.spec_ParseChain.f k s = some (r, b)) (h2 : MFnExactParseChain.laws_eqIntS.f k r r = some true) (h3 : MFnExactParseChain.laws_markIntS.f k r 1 = some (m, r2)) (h4 : MFnExactParseChain.laws_heldIntS.f k r2 1 = some m) (h5 : r2.length = r.length) (h6 : 0 ≤ m)
    (h7 : ∀ w', Below w.heap.size w w' → Calls Tryd.prog 10 #[.string s] w' fun e w'' => ∃ v, e = .returned (.tuple #[v, .bool b]) ∧ Kd.R (Kd.int .i64) 3 w'' w'.heap.size (fun _ => True) v r ∧ Below w'.heap.size w' w'') :
    Calls Tryd.prog 4 #[.string s] w fun e w' => e = .returned (.bool true) ∧ Below w.heap.size w w' := by
  have hz : ¬ (1048576 : Int) < (s.size : Int) := by omega
  have hm : ¬ m < 0 := by omega
  have K1 := Aside0.mk h1
  have K2 := Aside0.mk h2
  have K3 := Aside0.mk h3
  have K4 := Aside0.mk h4
  have K5 := Aside0.mk h5
  have K7 := Aside0.mk h7
  clear h1 h2 h3 h4 h5 h6 h7 hlen
  go_enter Tryd.func4, Tryd.ntmps4
  go_wp2_with (first
    | (go_at_call 9; (with_reducible refine (MFnExactParseChain.spec_ParseChain.calls k s r b w K1.out).mono ?_); rintro e w1 ⟨v1, rfl, ho, hb⟩; obtain ⟨A1, c1, rfl, hc1, hC1⟩ := row_of ho; have B1 := Aside0.mk hb; have E1 := Aside0.mk hc1; have C1 := Aside0.mk hC1; clear ho hb hc1 hC1)
    | (go_at_call 10; (with_reducible refine (K7.out w1 B1.out).mono ?_); rintro e w3 ⟨v3, rfl, ho, hb⟩; have O3 := Aside0.mk ho; obtain ⟨A3, c3, rfl, hc3, hC3⟩ := row_of ho; have D3 := Aside0.mk hb; have E3 := Aside0.mk hc3; have C3 := Aside0.mk hC3; clear ho hb hc3 hC3)
    | (go_at_call 8; (with_reducible refine (eq_c k A3 A1 c3 c1 r w3 C3.out E3.out (Kd.C_below C1.out D3.out) E1.out K2.out).mono ?_); rintro e w4 ⟨rfl, hb⟩; have D4 := Aside0.mk (D3.out.trans (hb.mono D3.out.size)); have O4 := Aside0.mk (Kd.R_below O3.out hb); clear hb)
    | (go_at_call 11; (with_reducible refine (mark_c k A3 c3 r r2 m w1 w4 D4.out O4.out K5.out K3.out).mono ?_); rintro e w5 ⟨rfl, hC5, hb⟩; have D5 := Aside0.mk hb; have C5 := Aside0.mk hC5; clear hb hC5)
    | (go_at_call 12; (with_reducible refine (held_c k A3 c3 r r2 m w5 K5.out C5.out E3.out K4.out).mono ?_); rintro e w6 ⟨rfl, hb⟩; have D6 := Aside0.mk (D5.out.trans (hb.mono D5.out.size)); have C6 := Aside0.mk (Kd.C_below C5.out hb); clear hb)
    | (go_at_call 10; (with_reducible refine (K7.out w6 (B1.out.trans (D6.out.mono B1.out.size))).mono ?_); rintro e w7 ⟨v7, rfl, ho, hb⟩; obtain ⟨A7, c7, rfl, hc7, hC7⟩ := row_of ho; have D7 := Aside0.mk (D6.out.trans (hb.mono D6.out.size)); have E7 := Aside0.mk hc7; have C7 := Aside0.mk hC7; have G7 := Aside0.mk (Kd.C_below C6.out hb); clear ho hb hc7 hC7)
    | (go_at_call 8; (with_reducible refine (eq_c k A7 A1 c7 c1 r w7 C7.out E7.out (Kd.C_below C1.out D7.out) E1.out K2.out).mono ?_); rintro e w8 ⟨rfl, hb⟩; have D8 := Aside0.mk (D7.out.trans (hb.mono D7.out.size)); have G8 := Aside0.mk (Kd.C_below G7.out hb); clear hb)
    | (go_at_call 12; (with_reducible refine (held_c k A3 c3 r r2 m w8 K5.out G8.out E3.out K4.out).mono ?_); rintro e w9 ⟨rfl, hb⟩; have D9 := Aside0.mk (D8.out.trans (hb.mono D8.out.size)); clear hb))
  go_ret
  exact ⟨rfl, B1.out.trans (D9.out.mono B1.out.size)⟩
end Go.Proofs.YtlefjgpkabijdaaDoor.PL
