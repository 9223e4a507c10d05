/- The document's headOf: headV, whatever the text. -/
import Derived.Test.YtokegkpbbhegpaaWHeadS
namespace Go.Proofs.Ytokegkpbbhegpaa.PT
open Go.RowKit Go.Proofs.YtokegkpbbhegpaaW.PrintWords Go.Proofs.YtokegkpbbhegpaaW.PrintLast Go.Proofs.YtokegkpbbhegpaaW.PrintMore Go.Proofs.Ytokegkpbbhegpaa.L
set_option linter.unusedVariables false
set_option linter.unusedSimpArgs false

theorem many_ok {f z : Int} (h0 : 0 ≤ f) (h1 : f ≤ 4096) (h2 : 1 ≤ z) (h3 : z ≤ 64) : descantref13_Many.f f z = some (many f z) ∧ 0 ≤ many f z ∧ many f z ≤ 4159 := by
  have g1 := Int.ediv_le_self z (show 0 ≤ f + z - 1 by omega)
  have g2 : 0 ≤ (f + z - 1) / z := Int.ediv_nonneg (by omega) (by omega)
  unfold descantref13_Many.f many
  rw [if_neg (by omega), IntWalk.wrap64_in (f + z) (by omega), IntWalk.wrap64_in (f + z - 1) (by omega), Int.tdiv_eq_ediv_of_nonneg (by omega), IntWalk.wrap64_in _ (by omega)]
  exact ⟨rfl, g2, by omega⟩
theorem headr_any (s : ByteArray) (w : World) : Calls Try.prog 36 #[.string s] w fun e w' => HeadPost w (headV s) e w' := by
  unfold headV
  by_cases h : 65536 < s.size ∨ s.size < 7 ∨ (s.extract 0 4).toList ≠ [68, 83, 67, 84]
  · rw [if_pos h]; exact headr_short s w h
  rw [if_neg h]
  have hs : s.size ≤ 65536 := by omega
  have hs7 : 7 ≤ s.size := by omega
  have hd : (s.extract 0 4).toList = [68, 83, 67, 84] := Decidable.not_not.1 (fun hn => h (.inr (.inr hn)))
  have iF := varV_in (s := s) (p := 7) (by omega)
  have iH := varV_in (s := s) (p := (numV s).2.1) iF.1
  have iT := varV_in (s := s) (p := (numV2 s).2.1) iH.1
  have bF := varV_num (s := s) (p := 7) (by omega)
  have bH := varV_num (s := s) (p := (numV s).2.1) iF.1
  have bT := varV_num (s := s) (p := (numV2 s).2.1) iH.1
  have eF : descantref1_GetVarint.f 40 s 7 = some (numV s) := rvarint_eq s 7 (by omega) (by omega) hs
  have eH : descantref1_GetVarint.f 40 s (numV s).2.1 = some (numV2 s) := rvarint_eq s _ iF.1 iF.2 hs
  have eT : descantref1_GetVarint.f 40 s (numV2 s).2.1 = some (numV3 s) := rvarint_eq s _ iH.1 iH.2 hs
  have nb : ∀ x : Int, (x != 0) = !decide (x = 0) := fun x => by by_cases hx : x = 0 <;> simp [hx]
  have lb : ∀ x y : Int, decide (x < y) = !decide (y ≤ x) := fun x y => by rw [← decide_not]; exact decide_eq_decide.2 (by omega)
  by_cases hok : okV s (numV s) (numV2 s) (numV3 s) = false
  · rw [if_pos hok]
    exact headr_no s w hs hs7 hd (numV s).1 (numV s).2.1 (numV s).2.2 (numV2 s).1 (numV2 s).2.1 (numV2 s).2.2 (numV3 s).1 (numV3 s).2.1 (numV3 s).2.2 0 _ _ _ _ _ _ _ _ _ _ (Lib.hid eF) (Lib.hid eH) (Lib.hid eT) bF bH bT iT
      (nb _) (nb _) (nb _) (Lib.hid (fm_eq _ _)) (Lib.hid (up_eq _ _ _)) (lb _ _) (lb _ _) (lb _ _) (lb _ _) (Lib.hid (fun hq => by unfold okV at hok; rw [hq] at hok; exact absurd hok (by decide))) (Lib.hid (lb _ _)) (by unfold okV at hok; rw [hok]; rfl)
  rw [if_neg hok]
  have hok : okV s (numV s) (numV2 s) (numV3 s) = true := by simpa using hok
  have hk := hok
  unfold okV at hk
  simp only [Bool.and_eq_true, decide_eq_true_eq] at hk
  obtain ⟨⟨⟨⟨⟨⟨⟨⟨k1, k2⟩, k3⟩, k4⟩, k5⟩, k6⟩, k7⟩, k8⟩, k9⟩ := hk
  have bF' : 0 ≤ (numV s).1 := bF.1
  obtain ⟨m1, m2, m3⟩ := many_ok bF' k6 k5.1 k5.2
  unfold tailV
  by_cases hc : (s.size : Int) - ((numV3 s).2.1 + (numV2 s).1 + (numV3 s).1) < 2 * many (numV s).1 (bt s 6) + 4
  · rw [if_pos hc]
    exact headr_no s w hs hs7 hd (numV s).1 (numV s).2.1 (numV s).2.2 (numV2 s).1 (numV2 s).2.1 (numV2 s).2.2 (numV3 s).1 (numV3 s).2.1 (numV3 s).2.2 (many (numV s).1 (bt s 6)) _ _ _ _ _ _ _ _ _ false (Lib.hid eF) (Lib.hid eH) (Lib.hid eT) bF bH bT iT
      (nb _) (nb _) (nb _) (Lib.hid (fm_eq _ _)) (Lib.hid (up_eq _ _ _)) (lb _ _) (lb _ _) (lb _ _) (lb _ _) (Lib.hid (fun _ => ⟨m1, m2, m3, k7, k8, by omega⟩)) (Lib.hid (decide_eq_true hc)) (by simp)
  · rw [if_neg hc]
    refine headr_yes s w hs hs7 hd (numV s).1 (numV s).2.1 (numV s).2.2 (numV2 s).1 (numV2 s).2.1 (numV2 s).2.2 (numV3 s).1 (numV3 s).2.1 (numV3 s).2.2 (many (numV s).1 (bt s 6)) (Lib.hid eF) (Lib.hid eH) (Lib.hid eT) bF bH bT iT
      (by simp [k1]) (by simp [k2]) (by simp [k3]) (Lib.hid (by rw [fm_eq, decide_eq_true k4])) (Lib.hid (by rw [up_eq, decide_eq_true k5])) (decide_eq_false (by omega)) (decide_eq_false (by omega)) (decide_eq_false (by omega)) (decide_eq_false (by omega)) (Lib.hid m1) m2 m3 k7 k8 (by omega) (by omega) (decide_eq_false hc)
end Go.Proofs.Ytokegkpbbhegpaa.PT
