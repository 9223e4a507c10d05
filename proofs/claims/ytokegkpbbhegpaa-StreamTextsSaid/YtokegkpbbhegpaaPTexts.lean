/- Texts that are no streams: what a turned text gives (P23.2, T4); lists and numbers alone. -/
import Derived.Test.YtokegkpbbhegpaaPLoose
import Derived.Test.YtokegkpbbhegpaaPAwk
namespace Go.Proofs.Ytokegkpbbhegpaa
open Go.RowKit Go.Proofs.YtokegkpbbhegpaaW.PrintWords Go.Proofs.Ytokegkpbbhegpaa.PL Go.Proofs.Ytokegkpbbhegpaa.L
set_option linter.unusedVariables false
set_option linter.unusedSimpArgs false

theorem take_ok {s : ByteArray} {i n : Int} {b : Bool} (h : (takeT s i b n).2.2 = false) : b = false ∧ 0 ≤ n ∧ n ≤ s.size - i ∧ takeT s i b n = (s.extract i.toNat (i + n).toNat, i + n, false) := by
  unfold takeT at h ⊢
  by_cases c : b = true ∨ n < 0 ∨ s.size - i < n
  · rw [if_pos c] at h; simp at h
  · rw [if_neg c]
    refine ⟨?_, by omega, by omega, rfl⟩
    cases b
    · rfl
    · exact absurd (.inl rfl) c
theorem lens_ok {s : ByteArray} {p : Int × Bool × List Int} : ∀ n, (lens fieldV s n p).2.1 = false → p.2.1 = false ∧ (lens fieldV s n p).1 = p.1 + 2 * (n : Int)
  | 0, h => ⟨h, by simp [lens]⟩
  | n + 1, h => by
    rw [lens, lenT] at h ⊢
    simp only [Bool.or_eq_false_iff] at h
    obtain ⟨h1, h2, h3, h4⟩ := take_ok h.1
    obtain ⟨h5, h6⟩ := lens_ok n h1
    refine ⟨h5, ?_⟩
    rw [h4, h6]
    simp only []
    omega
/-- A text that is told: its sum is its table's and head's. -/
theorem get_sum {s : ByteArray} (h : (getT s).2.2.2.2.2.2.2 = 0) : (lensOf s).2.1 = false ∧ (takeT s (lensOf s).1 (lensOf s).2.1 4).2.2 = false ∧ fieldV (takeT s (lensOf s).1 (lensOf s).2.1 4).1 = ((crcOf (nats (s.extract 0 (lensOf s).1.toNat)) : Nat) : Int) := by
  unfold getT at h
  split at h
  · simp [noR] at h
  split at h
  · simp [noR] at h
  split at h
  · simp [noR] at h
  split at h
  · simp [noR] at h
  unfold restT at h
  split at h
  · simp [noR] at h
  split at h
  · simp [noR] at h
  rename_i h1 h2
  have h1 : (takeT s (lensOf s).1 (lensOf s).2.1 4).2.2 = false := by simpa using h1
  exact ⟨(take_ok h1).1, h1, Decidable.not_not.1 h2⟩
theorem get_err (s : ByteArray) : (getT s).2.2.2.2.2.2.2 = 0 ∨ (getT s).2.2.2.2.2.2.2 = 2300 ∨ (getT s).2.2.2.2.2.2.2 = 2301 := by
  unfold getT restT lastT
  repeat' split
  all_goals simp [noR]
theorem zip_zero : ∀ l : List Nat, List.zipWith (· ^^^ ·) l (List.replicate l.length 0) = l
  | [] => rfl
  | x :: r => by rw [List.length_cons, List.replicate_succ, List.zipWith_cons_cons, zip_zero r, Nat.xor_zero]
theorem whole_of {s : ByteArray} (hs : 23 ≤ s.size) (h : fieldV (s.extract 19 23) = ((crcOf (nats (s.extract 0 19)) : Nat) : Int)) : crcGo 4294967295 ((nats s).take 23) = csteps 32 4294967295 := by
  have e : (s.extract 19 23).data.toList = (s.data.toList.take 23).drop 19 := ext_list s 19 23
  have hl : (s.extract 19 23).data.toList.length = 4 := by rw [e, List.length_drop, List.length_take, ← size_list]; omega
  match hq : (s.extract 19 23).data.toList, hl with
  | [a, b, c, d], _ =>
    have hv := fieldV4 hq
    rw [h] at hv
    have hw : crcOf (nats (s.extract 0 19)) = word4 a.toNat b.toNat c.toNat d.toNat := by unfold word4; omega
    have := crc_whole a.toNat_lt b.toNat_lt c.toNat_lt d.toNat_lt hw
    rw [show (nats s).take 23 = nats (s.extract 0 19) ++ [a.toNat, b.toNat, c.toNat, d.toNat] from ?_]
    · exact this
    · unfold nats
      rw [ext_list, List.drop_zero, show [a.toNat, b.toNat, c.toNat, d.toNat] = [a, b, c, d].map UInt8.toNat from rfl, ← hq, e, ← List.map_append, ← List.map_take]
      congr 1
      have h1 := List.take_append_drop 19 (s.data.toList.take 23)
      rw [List.take_take] at h1
      exact h1.symm
theorem take_mid (X B Y : List Nat) {k : Nat} (hX : X.length = k) (hB : B.length = 4) (hk : k ≤ 19) : (X ++ B ++ Y).take 23 = X ++ B ++ Y.take (19 - k) := by
  rw [List.take_append, List.take_of_length_le (by rw [List.length_append]; omega), show 23 - (X ++ B).length = 19 - k by rw [List.length_append]; omega]
theorem nats_ofNats {X : List Nat} (h : ∀ x ∈ X, x < 256) : nats (ofNats X) = X := by
  unfold nats; rw [ofNats_list, List.map_map]
  conv => rhs; rw [← List.map_id X]
  refine List.map_congr_left fun x hx => ?_
  have := h x hx
  simp; omega
theorem toNat_inj {l m : List UInt8} (h : l.map UInt8.toNat = m.map UInt8.toNat) : l = m := by
  have := congrArg (List.map UInt8.ofNat) h
  rwa [ofNat_toNat_map, ofNat_toNat_map] at this
/-- The given text, turned ahead of its segments by four bytes. -/
theorem turned_any (N : List Nat) (hA : N.length = 42) (hN : ∀ x ∈ N, x < 256) (hN10 : N.take 10 = [68, 83, 67, 84, 1, 8, 4, 7, 4, 1].map UInt8.toNat) (hw0 : crcGo 4294967295 (N.take 23) = csteps 32 4294967295)
    {k : Nat} (h0 : 10 ≤ k) (h1 : k ≤ 19) {a b c d : Nat} (ha : a < 256) (hb : b < 256) (hc : c < 256) (hd : d < 256) (hw : word4 a b c d ≠ 0) :
    (getT (ofNats (xr N k [a, b, c, d]))).2.2.2.2.2.2.2 ≠ 0 := by
  intro h
  -- the pieces of the row
  have hcut : N = N.take k ++ (N.drop k).take 4 ++ N.drop (k + 4) := by
    rw [List.append_assoc, show N.drop (k + 4) = (N.drop k).drop 4 from by rw [List.drop_drop], List.take_append_drop, List.take_append_drop]
  have hk : (N.take k).length = k := by rw [List.length_take, hA]; omega
  have hB : ((N.drop k).take 4).length = 4 := by rw [List.length_take, List.length_drop, hA]; omega
  have hx : xr N k [a, b, c, d] = N.take k ++ List.zipWith (· ^^^ ·) ((N.drop k).take 4) [a, b, c, d] ++ N.drop (k + 4) := by
    have := xr_mid [a, b, c, d] ((N.drop k).take 4) (N.take k) (N.drop (k + 4)) (by rw [hB]; rfl)
    rw [hk, ← hcut] at this
    exact this
  obtain ⟨s, hs⟩ : ∃ s, ofNats (xr N k [a, b, c, d]) = s := ⟨_, rfl⟩
  rw [hs] at h
  have hlt := xr_lt [a, b, c, d] N k hN (by intro e he; simp only [List.mem_cons, List.not_mem_nil, or_false] at he; rcases he with rfl | rfl | rfl | rfl <;> assumption)
  have hns : nats s = xr N k [a, b, c, d] := by rw [← hs]; exact nats_ofNats hlt
  have hsz : s.size = 42 := by rw [← nats_length, hns, xr_length, hA]
  -- its first ten bytes stand
  have h10 : s.data.toList.take 10 = [68, 83, 67, 84, 1, 8, 4, 7, 4, 1] := by
    have e1 : (nats s).take 10 = N.take 10 := by
      rw [hns, hx, List.append_assoc, List.take_append_of_le_length (by rw [hk]; exact h0), List.take_take]
      congr 1; omega
    have e2 := hN10
    have e3 : (s.data.toList.take 10).map UInt8.toNat = [68, 83, 67, 84, 1, 8, 4, 7, 4, 1].map UInt8.toNat := by
      rw [← e2, ← e1]; unfold nats; rw [List.map_take]
    exact toNat_inj e3
  obtain ⟨R, hR⟩ : ∃ R, s.data.toList = [68, 83, 67, 84, 1, 8, 4, 7, 4, 1] ++ R := ⟨s.data.toList.drop 10, by rw [← h10, List.take_append_drop]⟩
  have hRl : R.length = 32 := by have := congrArg List.length hR; rw [← size_list, hsz, List.length_append] at this; simp at this; omega
  have e0 : gR s = (⟨[68, 83, 67, 84].toArray⟩, 4, false) := take_at (A := []) (B := [68, 83, 67, 84]) (C := _) (by rw [hR]; rfl) rfl rfl
  have e1 : g1 s = (⟨[1].toArray⟩, 5, false) := by
    unfold g1; rw [e0]; exact take_at (A := [68, 83, 67, 84]) (B := [1]) (C := _) (by rw [hR]; rfl) rfl rfl
  have e2 : g2 s = (⟨[8].toArray⟩, 6, false) := by
    unfold g2; rw [e1]; exact take_at (A := [68, 83, 67, 84, 1]) (B := [8]) (C := _) (by rw [hR]; rfl) rfl rfl
  have e3 : g3 s = (⟨[4].toArray⟩, 7, false) := by
    unfold g3; rw [e2]; exact take_at (A := [68, 83, 67, 84, 1, 8]) (B := [4]) (C := _) (by rw [hR]; rfl) rfl rfl
  have f1 : n1 s = (7, 8, false) := by
    unfold n1; rw [e3]
    have hv := var_at (s := s) (A := [68, 83, 67, 84, 1, 8, 4]) (C := [4, 1] ++ R) (n := 7) (p := 7) (by omega) (by omega) (by rw [hR]; rfl) rfl
    simp only []
    rw [hv, numT, if_neg (by simp)]; rfl
  have f2 : n2 s = (4, 9, false) := by
    unfold n2; rw [f1]
    have hv := var_at (s := s) (A := [68, 83, 67, 84, 1, 8, 4, 7]) (C := [1] ++ R) (n := 4) (p := 8) (by omega) (by omega) (by rw [hR]; rfl) rfl
    simp only []
    rw [hv, numT, if_neg (by simp)]; rfl
  have f3 : n3 s = (1, 10, false) := by
    unfold n3; rw [f2]
    have hv := var_at (s := s) (A := [68, 83, 67, 84, 1, 8, 4, 7, 4]) (C := R) (n := 1) (p := 9) (by omega) (by omega) (by rw [hR]; rfl) rfl
    simp only []
    rw [hv, numT, if_neg (by simp)]; rfl
  have j1 : (t1 s).2 = (14, false) := by
    unfold t1; rw [f2, f3]; unfold takeT; simp only []
    rw [if_neg (by simp; omega)]; rfl
  have j2 : (t2 s).2 = (15, false) := by
    unfold t2; rw [j1, f3]; unfold takeT; simp only []
    rw [if_neg (by simp; omega)]; rfl
  obtain ⟨q1, q2, q3⟩ := get_sum h
  have hm : (many (n1 s).1 (fieldV (g3 s).1)).toNat = 2 := by
    rw [f1, e3, fieldV1 (x := 4) rfl]; decide
  have hp : (lensOf s).1 = 19 := by
    have := (lens_ok (s := s) (p := ((t2 s).2.1, false, [])) 2 (by rw [← hm]; exact q1)).2
    unfold lensOf; rw [hm, this, j2]; rfl
  obtain ⟨-, -, -, q4⟩ := take_ok q2
  rw [q4, hp] at q3
  have hw1 := whole_of (s := s) (by omega) q3
  refine hw (burst (l := N.take 23) (k := k) (j := 19 - k) ha hb hc hd (by rw [List.length_take, hA]; omega) hw0 ?_)
  rw [← hw1, hns, hx]
  congr 1
  have c1 : N.take 23 = N.take k ++ (N.drop k).take 4 ++ (N.drop (k + 4)).take (19 - k) := by
    have : N.take 23 = (N.take k ++ (N.drop k).take 4 ++ N.drop (k + 4)).take 23 := by rw [← hcut]
    rw [this]; exact take_mid _ _ _ hk hB h1
  have c2 := take_mid (N.take k) (List.zipWith (· ^^^ ·) ((N.drop k).take 4) [a, b, c, d]) (N.drop (k + 4)) hk (by rw [List.length_zipWith, hB]; rfl) h1
  rw [c2, c1]
  have hC : ((N.drop (k + 4)).take (19 - k)).length = 19 - k := by rw [List.length_take, List.length_drop, hA]; omega
  rw [List.zipWith_append (by rw [List.length_append, List.length_append, hk, hB, List.length_replicate]; rfl), List.zipWith_append (by rw [hk, List.length_replicate])]
  have z1 := zip_zero (N.take k)
  rw [hk] at z1
  have z2 := zip_zero ((N.drop (k + 4)).take (19 - k))
  rw [hC] at z2
  rw [z1, z2]
theorem turned {k : Nat} (h0 : 10 ≤ k) (h1 : k ≤ 19) {a b c d : Nat} (ha : a < 256) (hb : b < 256) (hc : c < 256) (hd : d < 256) (hw : word4 a b c d ≠ 0) :
    (getT (ofNats (xr (nats A42) k [a, b, c, d]))).2.2.2.2.2.2.2 ≠ 0 :=
  turned_any (nats A42) (by decide +kernel) (nats_lt A42) (by decide +kernel) (by decide +kernel) h0 h1 ha hb hc hd hw
set_option maxRecDepth 100000 in
theorem cut_all : (List.range 42).all (fun m => (getT (A42.extract 0 m)).2.2.2.2.2.2.2 != 0) = true := by kernel_rfl
set_option maxRecDepth 100000 in
theorem more_all : (List.range 33).all (fun n => n == 0 || (getT (A42 ++ A42.extract 0 n)).2.2.2.2.2.2.2 == 2300) = true := by kernel_rfl
set_option maxRecDepth 100000 in
theorem other_head : (getT (⟨#[68, 83, 67, 85]⟩ ++ A42.extract 4 42)).2.2.2.2.2.2.2 = 2300 := by kernel_rfl
theorem cut_err {m : Nat} (h : m < 42) : (getT (A42.extract 0 m)).2.2.2.2.2.2.2 ≠ 0 := by
  have := List.all_eq_true.1 cut_all m (List.mem_range.2 h)
  simpa using this
theorem more_err {n : Nat} (h : n < 33) (h0 : 1 ≤ n) : (getT (A42 ++ A42.extract 0 n)).2.2.2.2.2.2.2 = 2300 := by
  have := List.all_eq_true.1 more_all n (List.mem_range.2 h)
  simp only [Bool.or_eq_true, beq_iff_eq] at this
  rcases this with h' | h'
  · omega
  · exact h'
/-- A number's four bytes. -/
theorem word4_of {x : Nat} (h : x < 4294967296) : word4 (x % 256) (x / 256 % 256) (x / 65536 % 256) (x / 16777216 % 256) = x := by unfold word4; omega
end Go.Proofs.Ytokegkpbbhegpaa
