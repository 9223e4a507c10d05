/- Other segments of the same lengths, and what turned bytes of a stream come to; lists alone. -/
import Derived.Test.YtokegkpbbhegpaaPBack
import Derived.Test.YtokegkpbbhegpaaWByt
import Derived.Test.YtokegkpbbhegpaaPBurst
namespace Go.Proofs.Ytokegkpbbhegpaa
open Go.RowKit Go.Proofs.YtokegkpbbhegpaaW.PrintWords Go.Proofs.Ytokegkpbbhegpaa.PL Go.Proofs.Ytokegkpbbhegpaa.L
set_option linter.unusedVariables false
set_option linter.unusedSimpArgs false

def turn77 (x : ByteArray) : ByteArray := ofNats ((nats x).map (· ^^^ 77))
theorem turn77_size (x : ByteArray) : (turn77 x).size = x.size := by
  rw [size_list]; simp [turn77, ofNats, nats_length]
theorem ofNats_list (xs : List Nat) : (ofNats xs).data.toList = xs.map UInt8.ofNat := by simp [ofNats]
theorem nats_of_list {s : ByteArray} {l : List UInt8} (h : s.data.toList = l) : nats s = l.map UInt8.toNat := by unfold nats; rw [h]
theorem ofNat_toNat_map (l : List UInt8) : (l.map UInt8.toNat).map UInt8.ofNat = l := by
  rw [List.map_map]
  have : (UInt8.ofNat ∘ UInt8.toNat) = id := by funext x; simp
  rw [this, List.map_id]
theorem zip_const (f : Nat → Nat → Nat) (c : Nat) : ∀ l : List Nat, List.zipWith f l (List.replicate l.length c) = l.map (fun x => f x c)
  | [] => rfl
  | x :: r => by rw [List.length_cons, List.replicate_succ, List.zipWith_cons_cons, zip_const f c r]; rfl
theorem loose_put {c b0 sz f : Int} {h t a b S : ByteArray} (hS : S.data.toList = putB c b0 sz f h t [a, b]) :
    ofNats (xr (nats S) (S.size - a.size - b.size) (List.replicate (a.size + b.size) 77)) = ⟨(putB c b0 sz f h t [turn77 a, turn77 b]).toArray⟩ := by
  have hH : headB c b0 sz f h t [turn77 a, turn77 b] = headB c b0 sz f h t [a, b] := by
    unfold headB; simp [turn77_size]
  obtain ⟨H, hHd⟩ : ∃ H, headB c b0 sz f h t [a, b] ++ sumB (headB c b0 sz f h t [a, b]) = H := ⟨_, rfl⟩
  have hS2 : S.data.toList = H ++ (a.data.toList ++ b.data.toList) := by
    rw [hS]; unfold putB; rw [hHd]; simp
  have hsz : S.size = H.length + (a.size + b.size) := by rw [size_list S, hS2]; simp
  have hk : S.size - a.size - b.size = (H.map UInt8.toNat).length := by rw [List.length_map]; omega
  have hn : nats S = H.map UInt8.toNat ++ (nats a ++ nats b) ++ [] := by
    rw [nats_of_list hS2]; simp [nats]
  have hB : (nats a ++ nats b).length = (List.replicate (a.size + b.size) 77).length := by simp [nats_length]
  rw [hn, hk, xr_mid _ _ _ _ hB]
  have hz : List.replicate (a.size + b.size) 77 = List.replicate (nats a ++ nats b).length 77 := by rw [List.length_append, nats_length, nats_length]
  rw [hz, zip_const]
  apply ba_ext
  rw [ofNats_list]
  unfold putB
  rw [hH, hHd]
  simp only [List.map_append, List.append_nil, ofNat_toNat_map, List.flatMap_cons, List.flatMap_nil]
  congr 1
end Go.Proofs.Ytokegkpbbhegpaa
