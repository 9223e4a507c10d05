/- stream.Get: what it gives, whatever the text. -/
import Derived.Test.YtokegkpbbhegpaaWGetC
import Derived.Test.YtokegkpbbhegpaaPNum
namespace Go.Proofs.Ytokegkpbbhegpaa
open Go.RowKit Go.Proofs.YtokegkpbbhegpaaW.PrintWords Go.Proofs.Ytokegkpbbhegpaa.PL Go.Proofs.Ytokegkpbbhegpaa.L
set_option linter.unusedVariables false
set_option linter.unusedSimpArgs false
theorem tells : Tells fieldV varV 40 where
  field := field_eq
  varint := fun x i hs h0 h1 => varint_eq x i h0 h1 hs
  varin := fun x i h0 h1 h => vgo_in h0 5 0 0 h
def gR (s : ByteArray) := takeT s 0 false 4
def g1 (s : ByteArray) := takeT s (gR s).2.1 (gR s).2.2 1
def g2 (s : ByteArray) := takeT s (g1 s).2.1 (g1 s).2.2 1
def g3 (s : ByteArray) := takeT s (g2 s).2.1 (g2 s).2.2 1
def n1 (s : ByteArray) := numT (g3 s).2.1 (g3 s).2.2 (varV s (g3 s).2.1)
def n2 (s : ByteArray) := numT (n1 s).2.1 (n1 s).2.2 (varV s (n1 s).2.1)
def n3 (s : ByteArray) := numT (n2 s).2.1 (n2 s).2.2 (varV s (n2 s).2.1)
def t1 (s : ByteArray) := takeT s (n3 s).2.1 (n3 s).2.2 (n2 s).1
def t2 (s : ByteArray) := takeT s (t1 s).2.1 (t1 s).2.2 (n3 s).1
def lensOf (s : ByteArray) := lens fieldV s (many (n1 s).1 (fieldV (g3 s).1)).toNat ((t2 s).2.1, false, [])
def getT (s : ByteArray) : GetR :=
  if 65536 < s.size then noR 2300
  else if (gR s).1.toList ≠ [68, 83, 67, 84] then noR 2300
  else if (t2 s).2.2 = true then noR 2300
  else if headOk (fieldV (g1 s).1) (fieldV (g2 s).1) (fieldV (g3 s).1) (n1 s).1 (t1 s).1 (t2 s).1 = false then noR 2300
  else restT s (g1 s) (g2 s) (g3 s) (n1 s) (t1 s) (t2 s) fieldV (lensOf s) (takeT s (lensOf s).1 (lensOf s).2.1 4)
theorem reads (s : ByteArray) : Reads fieldV varV s (gR s) (g1 s) (g2 s) (g3 s) (n1 s) (n2 s) (n3 s) (t1 s) (t2 s) := ⟨rfl, rfl, rfl, rfl, rfl, rfl, rfl, rfl, rfl⟩
theorem post_no {w w' : World} {e : Ending} (h : e = .returned (.tuple #[.agg zS.toArray, .int .i64 2300]) ∧ Below w.heap.size w w') : GetPost w (noR 2300) e w' :=
  ⟨_, h.1, Kd.R_nil _ _ _ _ _, h.2⟩
theorem get_any (s : ByteArray) (w : World) : Calls Try.prog 11 #[.string s] w fun e w' => GetPost w (getT s) e w' := by
  unfold getT
  by_cases h0 : 65536 < s.size
  · rw [if_pos h0]; exact (get_long s w h0).mono fun _ _ h => post_no h
  rw [if_neg h0]
  have hs : s.size ≤ 65536 := by omega
  by_cases h1 : (gR s).1.toList ≠ [68, 83, 67, 84]
  · rw [if_pos h1]; exact (get_none s w hs (e0 := rfl) h1).mono fun _ _ h => post_no h
  rw [if_neg h1]
  have h1 := Decidable.not_not.1 h1
  by_cases h2 : (t2 s).2.2 = true
  · rw [if_pos h2]; exact (get_head tells s w hs (reads s) h1 h2).mono fun _ _ h => post_no h
  rw [if_neg h2]
  have h2 : (t2 s).2.2 = false := by simpa using h2
  by_cases h3 : headOk (fieldV (g1 s).1) (fieldV (g2 s).1) (fieldV (g3 s).1) (n1 s).1 (t1 s).1 (t2 s).1 = false
  · rw [if_pos h3]; exact (get_no tells s w hs (reads s) h1 h2 h3).mono fun _ _ h => post_no h
  rw [if_neg h3]
  exact get_main tells s w hs (reads s) h1 h2 (by simpa using h3)
end Go.Proofs.Ytokegkpbbhegpaa
