/- SameTexts, SameStream: equality. -/
import Derived.Test.YtokegkpbbhegpaaPSx2
import Derived.Test.YtokegkpbbhegpaaPBack
namespace Go.Proofs.Ytokegkpbbhegpaa.PS
open Go.RowKit Go.Proofs.YtokegkpbbhegpaaW.PrintWords Go.Proofs.YtokegkpbbhegpaaW.PrintLast Go.Proofs.YtokegkpbbhegpaaW.PrintMore Go.Proofs.Ytokegkpbbhegpaa.L
set_option linter.unusedVariables false
set_option linter.unusedSimpArgs false

theorem same_go (l m : List ByteArray) (h : l.length = m.length) (hb : l.length ≤ 4611686018427387904) : ∀ (n k i : Nat), i + n = l.length → n < k → descantlaw0_SameTexts.l0 k l m (i : Int) = some (decide (l.drop i = m.drop i))
  | _, 0, _, _, hk => absurd hk (Nat.not_lt_zero _)
  | 0, k + 1, i, hi, _ => by
    rw [descantlaw0_SameTexts.l0, if_neg (by omega), List.drop_eq_nil_of_le (by omega), List.drop_eq_nil_of_le (by omega)]; rfl
  | n + 1, k + 1, i, hi, hk => by
    have h1 : i < l.length := by omega
    have h2 : i < m.length := by omega
    rw [descantlaw0_SameTexts.l0, if_pos (by omega), if_pos (by omega), if_pos (by omega)]
    have e1 : rdOf ByteArray.empty l (i : Int) = l[i] := by unfold rdOf; rw [Int.toNat_natCast, List.getD_eq_getElem?_getD, List.getElem?_eq_getElem h1]; rfl
    have e2 : rdOf ByteArray.empty m (i : Int) = m[i] := by unfold rdOf; rw [Int.toNat_natCast, List.getD_eq_getElem?_getD, List.getElem?_eq_getElem h2]; rfl
    rw [e1, e2, List.drop_eq_getElem_cons h1, List.drop_eq_getElem_cons h2]
    by_cases c : l[i] = m[i]
    · rw [if_pos (by rw [c]), IntWalk.wrap64_in _ (by omega), show ((i : Int) + 1) = ((i + 1 : Nat) : Int) by omega, same_go l m h hb n k (i + 1) (by omega) (by omega)]
      refine congrArg some (decide_eq_decide.2 ?_)
      rw [c]
      exact ⟨fun e => by rw [e], fun e => (List.cons.inj e).2⟩
    · rw [if_neg (fun he => c (ba_ext (by rw [← ByteArray.toList_eq, ← ByteArray.toList_eq]; exact he)))]
      exact congrArg some (decide_eq_false (fun e => c (List.cons.inj e).1)).symm
theorem same_texts (l m : List ByteArray) (hb : l.length ≤ 4611686018427387904) {k : Nat} (hk : l.length < k) : descantlaw0_SameTexts.f k l m = some (decide (l = m)) := by
  unfold descantlaw0_SameTexts.f
  by_cases h : l.length = m.length
  · rw [if_pos (by omega)]
    have := same_go l m h hb l.length k 0 (by omega) hk
    rw [List.drop_zero, List.drop_zero] at this
    exact this
  · rw [if_neg (by omega), decide_eq_false (fun e => h (by rw [e]))]
theorem same_stream {c b s f : Int} {h t : ByteArray} {l : List ByteArray} {c' b' s' f' : Int} {h' t' : ByteArray} {l' : List ByteArray} (hb : l.length ≤ 4611686018427387904) {k : Nat} (hk : l.length < k) :
    descantlaw0_SameStream.f k c b s f h t l c' b' s' f' h' t' l' = some (decide (c = c' ∧ b = b' ∧ s = s' ∧ f = f' ∧ h = h' ∧ t = t' ∧ l = l')) := by
  have bl : ∀ x y : ByteArray, x.toList = y.toList ↔ x = y := fun x y => ⟨fun e => ba_ext (by rw [← ByteArray.toList_eq, ← ByteArray.toList_eq]; exact e), fun e => by rw [e]⟩
  unfold descantlaw0_SameStream.f
  rw [same_texts l l' hb hk]
  by_cases h1 : c = c' <;> by_cases h2 : b = b' <;> by_cases h3 : s = s' <;> by_cases h4 : f = f' <;> by_cases h5 : h = h' <;> by_cases h6 : t = t' <;> simp [h1, h2, h3, h4, h5, h6, bl]
end Go.Proofs.Ytokegkpbbhegpaa.PS
